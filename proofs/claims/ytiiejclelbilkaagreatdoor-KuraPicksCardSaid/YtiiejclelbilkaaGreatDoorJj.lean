/- Blocks: all of a graph. -/
import Derived.Test.YtiiejclelbilkaaGreatDoorJi
import Derived.Test.YtiiejclelbilkaaGreatDoorAwZ
import Derived.Test.YtiiejclelbilkaaGreatDoorAwFr
import Derived.Test.YtiiejclelbilkaaGreatDoorAwFn
import Derived.Test.YtiiejclelbilkaaGreatDoorAwRg
namespace Go.Proofs.YtiiejclelbilkaaGreatDoor.Aw
open Go Go.RowKit Go.Proofs.YtiiejclelbilkaaGreatDoor.Pl Go.Proofs.YtiiejclelbilkaaGreatDoor.Eu
set_option linter.unusedSimpArgs false
set_option linter.unusedVariables false
theorem awp_cutZ {P:Program} {N:Nat} {Q:AQ} {k:List AItem} {fr:Frm} {st:St} {x:Code} (I:Frm→St→Prop) (h1:AWp P N x (AK P N (fun e f s=>e=.normal∧I f s) []) fr st) (h2:∀ fr st,I fr st→AK P N Q k .normal fr st):
 AWp P N x (AK P N Q k) fr st:=by
 refine awp_mono h1 ?_
 rintro e fr' st' ⟨rfl,hI⟩
 exact h2 _ _ hI
theorem awp_cellB {P:Program} {N:Nat} {Q:AQ} {fr:Frm} {st:St} {c:Code} (q e' s':Nat) {e s:Nat} (pre post:List LV) (hH:st.H q=.box e s (pre++.nil::post))
 (h:AWp P N c Q fr ((st.new (.box e' s' [])).set q (.box e s (pre++.ms st.next 0 0::post)))):AWp P N c Q fr st:=by
 refine awp_ghost (fun a w g hi hr _=>?_) h
 have he:=ext_nil w g
 have h1:Inv w g.addNil (st.new (.box e' s' [])):=inv_nil hi _ (.inr ⟨e',s',rfl⟩)
 have hlt:q < st.next:=box_lt hi hH (by simp)
 refine ⟨g.addNil,inv_recell h1 (cs:=pre++.nil::post) (by rw [new_H,if_neg (by omega)];exact hH) (by simp) (fun vs hv=>?_),hr.mono he,he⟩
 obtain ⟨v,k1,k2⟩:=repL_mid pre vs hv
 refine k2 g.addNil _ (Ext.refl _ _) ?_
 simp only [Rep] at k1 ⊢
 exact ⟨none,0,k1,Nat.le_refl _,Nat.zero_le _,fun _=>by simp [G.addNil,hi.next],fun h=>absurd rfl h,by simp [G.addNil,hi.next]⟩
structure AtR (lo:Nat) (ρ:Int→List Nat) (ea:List (List Int×LV)) (tk:Int→Nat) (st:St):Prop where
 get:∀ v,mget ea [v]=if ρ v=[] then none else some (.sl (tk v) (ρ v).length (isN (ρ v)))
 own:∀ v,ρ v≠[]→st.H (tk v)=.own 3 1 (ρ v).length∧(tk v≠0∧lo≤tk v∧tk v < st.next)
 inj:∀ v w,ρ v≠[]→ρ w≠[]→tk v=tk w→v=w
def addR (ρ:Int→List Nat) (v:Int) (k:Nat):Int→List Nat:=fun w=>if w=v then ρ v++[k] else ρ w
theorem AtR.put {lo:Nat} {ρ:Int→List Nat} {ea:List (List Int×LV)} {tk:Int→Nat} {st st':St} (h:AtR lo ρ ea tk st) (v:Int) (k:Nat) {t n:Nat} (hn:n=(ρ v).length+1) (ht:st.next≤t∧t < st'.next∧t≠0∧lo≤t) (hH:st'.H t=.own 3 1 n)
 (ho:∀ w,w≠v→ρ w≠[]→st'.H (tk w)=st.H (tk w)) (hl:st.next≤st'.next):AtR lo (addR ρ v k) (mset ea [v] (.sl t n (isN (ρ v)++[i (k:Int)]))) (fun w=>if w=v then t else tk w) st' where
 get:=fun w=>by
  rw [mget_mset]
  unfold addR
  by_cases e:w=v
  ·subst e
   rw [if_pos rfl,if_pos rfl,if_pos rfl,if_neg (by simp),hn]
   simp [isN]
  ·rw [if_neg (by simpa using e),if_neg e,if_neg e]
   exact h.get w
 own:=fun w hw=>by
  unfold addR at hw ⊢
  by_cases e:w=v
  ·rw [if_pos e,if_pos e]
   exact ⟨by rw [hH,hn];simp,ht.2.2.1,ht.2.2.2,ht.2.1⟩
  ·rw [if_neg e] at hw
   rw [if_neg e,if_neg e]
   obtain ⟨h1,h2,h3,h4⟩:=h.own w hw
   exact ⟨by rw [ho w e hw];exact h1,h2,h3,by omega⟩
 inj:=fun x y hx hy he=>by
  unfold addR at hx hy
  by_cases e1:x=v
  ·by_cases e2:y=v
   ·rw [e1,e2]
   ·rw [if_neg e2] at hy
    simp only [if_pos e1,if_neg e2] at he
    have:=(h.own y hy).2.2.2
    omega
  ·rw [if_neg e1] at hx
   by_cases e2:y=v
   ·simp only [if_neg e1,if_pos e2] at he
    have:=(h.own x hx).2.2.2
    omega
   ·rw [if_neg e2] at hy
    simp only [if_neg e1,if_neg e2] at he
    exact h.inj x y hx hy he
theorem AtR.keeps {lo:Nat} {ρ:Int→List Nat} {ea:List (List Int×LV)} {tk:Int→Nat} {st st':St} (h:AtR lo ρ ea tk st) (hk:Keeps st st'):AtR lo ρ ea tk st':=
 ⟨h.get,fun v hv=>by obtain ⟨h1,h2,h3,h4⟩:=h.own v hv;exact ⟨by rw [hk.H _ h4];exact h1,h2,h3,by have:=hk.next;omega⟩,h.inj⟩
def atK (es:List Ed) (k:Nat) (v:Int):List Nat:=(List.range k).filter fun i=>decide ((eAt es i).a=v∨(eAt es i).b=v)
theorem atK_succ {es:List Ed} {k:Nat} (hne:(eAt es k).a≠(eAt es k).b):atK es (k+1)=addR (addR (atK es k) (eAt es k).a k) (eAt es k).b k:=by
 funext v
 unfold atK addR
 rw [List.range_succ,List.filter_append]
 by_cases hb:v=(eAt es k).b
 ·subst hb
  rw [if_pos rfl,if_neg (fun e=>hne e.symm)]
  simp
 ·rw [if_neg hb]
  by_cases ha:v=(eAt es k).a
  ·subst ha
   simp
  ·rw [if_neg ha]
   have:¬ ((eAt es k).a=v∨(eAt es k).b=v):=by omega
   rw [List.filter_cons,if_neg (by simpa using this)]
   simp
def AtI (g:Gr) (p:Nat) (st:St) (ρ:Int→List Nat) (s:St):Prop:=s.H p=.box 35 2 (grL g)∧s.H (p+4)=.box 119 6 [.sl 0 g.es.length (eds g.es),.mp (p+1),.mp (p+2),.mp (p+3),.ms (p+5) 0 0,.ms (p+6) 0 0]∧s.H (p+2)=.map false [.u32] []∧s.H (p+3)=.map false [.u32] []∧s.H (p+5)=.box 3 1 []∧s.H (p+6)=.box 33 1 []∧p+7≤s.next∧Keeps st s∧
 ∃ ea tk,s.H (p+1)=.map false [.u32] ea∧AtR (p+7) ρ ea tk s
theorem allB_app {es:List Ed} {n:Nat}:∀ (l:List Int) (v:Int) (s:Bw),allB es n (l++[v]) s=(allB es n l s).bind fun s'=>allB es n [v] s'
 | [],v,s=>rfl
 | w::l,v,s=>by
   simp only [List.cons_append,allB]
   split
   ·exact allB_app l v s
   ·cases visF es n w (-1) s with
    | none=>rfl
    | some s'=>exact allB_app l v s'
theorem BAll.sz {g:Gr} {s:Bw} (h:BAll g s):SzB g s:=by
 have h1:=flat_ge s.out fun B hB=>(h.good B hB).ne
 have h2:=len_le h.pn fun i hi=>((h.pl i).1 hi).1
 unfold SzB
 rw [h.stk]
 refine ⟨Nat.zero_le _,?_⟩
 cases hv:s.vis with
 | nil=>
   have:s.out.flatten=[]:=List.eq_nil_iff_forall_not_mem.2 fun i hi=>by
    have:=((h.pl i).1 hi).2
    rw [hv] at this;cases this
   rw [this] at h1
   rw [List.length_nil,Nat.zero_mul]
   exact h1
 | cons w V=>
   rw [List.length_cons,Nat.add_mul]
   omega
theorem AtI.keeps {g:Gr} {p:Nat} {st:St} {ρ:Int→List Nat} {s s':St} (h:AtI g p st ρ s) (hk:Keeps s s'):AtI g p st ρ s':=by
 obtain ⟨h0,h1,h2,h3,h4,h5,h6,h7,ea,tk,h8,h9⟩:=h
 have:=hk.next
 exact ⟨(hk.H _ (by omega)).trans h0,(hk.H _ (by omega)).trans h1,(hk.H _ (by omega)).trans h2,(hk.H _ (by omega)).trans h3,(hk.H _ (by omega)).trans h4,(hk.H _ (by omega)).trans h5,by omega,h7.trans hk,ea,tk,(hk.H _ (by omega)).trans h8,h9.keeps hk⟩
set_option maxHeartbeats 8000000 in
theorem len_flat:∀ {out:List (List Nat)},(∀ B∈out,B≠[])→out.length≤out.flatten.length
 | [],_=>by simp
 | B::out,h=>by
   have h1:=len_flat (out:=out) fun B hB=>h B (List.mem_cons_of_mem _ hB)
   have h2:=List.length_pos_iff.2 (h B (by simp))
   simp only [List.length_cons,List.flatten_cons,List.length_append];omega
theorem out_few {es:List Ed} {out:List (List Nat)} (hall:∀ i,i∈out.flatten↔i < es.length) (hok:∀ B∈out,BlkOk es B) (hnd:out.flatten.Nodup):out.length≤es.length:=by
 have h1:=len_flat fun B hB=>(hok B hB).ne
 have h2:=List.Nodup.length_le_of_subset hnd fun k hk=>List.mem_range.2 ((hall k).1 hk)
 rw [List.length_range] at h2;omega
theorem BlocksK (g:Gr) (hg:GoodE g) (st:St) (hv:g.vs.length≤100) (he:g.es.length≤10):
 ACalls Tryz.prog 58 [.ag (grL g)] st fun r st'=>∃ q,r=.ms q 0 (ledB g.es).length∧st'.H q=.box 33 1 (bkL g.es (ledB g.es))∧st.next≤q∧q < st'.next∧Keeps st st':=by
 obtain ⟨S,hS,hSk,hSa,hSn,hSb⟩:=blocks_ok hg
 have hel:=eds_length g.es
 have hids:=hg.ids
 refine qO tabOk Tryz.func58 rfl rfl Tryz.ntmps58 (rs:=[.tmp 2]) rfl (by simp) ?_
 refine awp_posG fun hpos=>?_
 have x1:¬ st.next=st.next+1:=by omega
 have x2:¬ st.next=st.next+1+1:=by omega
 have x3:¬ st.next=st.next+1+1+1:=by omega
 have x4:¬ st.next=st.next+1+1+1+1:=by omega
 have x5:¬ st.next=st.next+1+1+1+1+1:=by omega
 have x6:¬ st.next=st.next+1+1+1+1+1+1:=by omega
 (repeat' (first | refine qS ?_ | refine qB ?_ | (refine w_e [] ?_;intro J hJ;simp only [];simp [x1,x2,x3,x4];(refine hJ _ _ ?_;clear hJ J;simp only [ak,reduceIte]))))
 refine awp_cellB (st.next+1+1+1+1) 3 1 (e:=119) (s:=6) [.sl 0 g.es.length (eds g.es),.mp (st.next+1),.mp (st.next+1+1),.mp (st.next+1+1+1)] [.nil] (by simp) ?_
 refine awp_cellB (st.next+1+1+1+1) 33 1 (e:=119) (s:=6) [.sl 0 g.es.length (eds g.es),.mp (st.next+1),.mp (st.next+1+1),.mp (st.next+1+1+1),.ms (st.next+5) 0 0] [] (by simp) ?_
 obtain ⟨p,hp⟩:∃ p,p=st.next:=⟨_,rfl⟩
 refine awp_range 18 17 19 55 (g.es.length) (fun j fr st2=>fr 1=.pt p 0∧fr 3=.pt (p+4) 0∧fr 16=.sl 0 g.es.length (eds g.es)∧AtI g p st (atK g.es j) st2) ?_ ?_ ?_
 ·subst hp
  refine ⟨by simp,by simp,by simp,?_⟩
  refine ⟨by simp [x1,x2,x3,x4,x5,x6],?_,by simp,by simp,by simp,by simp,by simp,?_,[],fun _=>0,by simp,⟨fun v=>rfl,fun v hv=>absurd rfl hv,fun v w hv=>absurd rfl hv⟩⟩
  ·simp
  ·(repeat (first | exact Keeps.refl _ | (refine Keeps.trans ?_ (Keeps.new _ _)) | (refine Keeps.set ?_ (by omega) _)))
 ·clear x1 x2 x3 x4 x5 x6
  rintro j fr s hlt ⟨f1,f3,f16,hI⟩ fi fn JO hJO
  have hde:=eds_drop g.es j hlt
  have hj3:j * 3 < g.es.length * 3:=by omega
  have hne:=hg.ne _ (eAt_mem hlt)
  have hsu:=atK_succ (es:=g.es) (k:=j) hne
  rw [hsu] at hJO
  clear hsu
  unfold eAt at hJO
  generalize g.es.getD j ed0=x at *
  obtain ⟨id,xa,xb⟩:=x
  simp only at hJO hde
  have hρ:∀ w,(atK g.es j w).length≤10000:=fun w=>by
   have:=List.length_filter_le (fun i=>decide ((eAt g.es i).a=w∨(eAt g.es i).b=w)) (List.range j)
   rw [List.length_range] at this
   unfold atK;omega
  generalize atK g.es j=ρ at *
  have hpn:p+7≤s.next:=hI.2.2.2.2.2.2.1
  (repeat' (first | refine qS ?_ | (refine w_e [] ?_;intro J hJ;simp only [];simp [f1,f3,f16,fi,fn,hde,hlt,hj3,hel];(refine hJ _ _ ?_;clear hJ J;simp only [ak,reduceIte]))))
  refine awp_weakBk (fun f T=>f 1=.pt p 0∧f 3=.pt (p+4) 0∧f 4=i j∧f 5=.pt s.next 0∧f 16=.sl 0 g.es.length (eds g.es)∧f 17=i g.es.length∧f 18=i j∧s.next < T.next∧T.H s.next=.box 38 3 [u id,u xa,u xb]∧AtI g p st (ρ) T) ⟨by simp [f1],by simp [f3],by simp,by simp,by simp [f16],by simp [fn],by simp [fi],by simp,by simp,hI.keeps (Keeps.new _ _)⟩ ?_
  generalize s.next=X at *
  clear f1 f3 f16 fi fn hI fr
  rintro fr s2 ⟨f1,f3,f4,f5,f16,fn,fi,hXl,hX,hI⟩
  refine awp_cutBk (fun f T=>f 1=.pt p 0∧f 3=.pt (p+4) 0∧f 4=i j∧f 5=.pt X 0∧f 16=.sl 0 g.es.length (eds g.es)∧f 17=i g.es.length∧f 18=i j∧X < T.next∧T.H X=.box 38 3 [u id,u xa,u xb]∧AtI g p st (addR ρ xa j) T) ?_ ?_
  ·obtain ⟨hG,hW,hN,hL,hS,hB,hnx,hkp,ea,tk,hA,hR⟩:=hI
   have hget:=hR.get xa
   have k1:¬ X=s2.next:=by omega
   have k2:¬ X=s2.next+1:=by omega
   have k3:¬ X=p+1:=by omega
   have e0:¬ p+4=s2.next:=by omega
   have e1:¬ p+1=s2.next:=by omega
   have e2:¬ p+2=s2.next:=by omega
   have e3:¬ p+3=s2.next:=by omega
   have e4:¬ p=s2.next:=by omega
   have e5:¬ p+5=s2.next:=by omega
   have e6:¬ p+6=s2.next:=by omega
   have e7:¬ p+4=s2.next+1:=by omega
   have e8:¬ p+1=s2.next+1:=by omega
   have e9:¬ p+2=s2.next+1:=by omega
   have e10:¬ p+3=s2.next+1:=by omega
   have e11:¬ p=s2.next+1:=by omega
   have e12:¬ p+5=s2.next+1:=by omega
   have e13:¬ p+6=s2.next+1:=by omega
   have e14:¬ s2.next+1=p+1:=by omega
   have e15:¬ s2.next=p:=by omega
   have tkl:∀ w,ρ w≠[]→¬ tk w=s2.next∧¬ tk w=s2.next+1∧¬ tk w=p+1:=fun w hw=>by have:=(hR.own w hw).2;omega
   by_cases hr:ρ xa=[]
   ·rw [if_pos hr] at hget
    (refine w_s [] [X,p+4,p+1] [(0,true),(1,true),(2,true),(3,true),(4,true),(5,true),(6,true),(7,true),(8,true),(9,true),(10,true),(11,true),(12,true),(13,true),(14,true),(15,true),(16,false)] ?_;intro J hJ;simp [f3,f4,f5,hX,hW,hA,hget,k1,k2,k3,e0,e1,e4,e7,e8,e14,e15];(repeat refine ca ?_);(refine hJ _ _ ?_;clear hJ J;simp only [ak,reduceIte]))
    have hput:=hR.put xa j (t:=s2.next+1) (n:=1) (st':=(((s2.new (.own 3 1 1)).new (.own 3 1 1)).set (p+1) (.map false [.u32] (mset ea [xa] (.sl (s2.next+1) 1 [i (j:Int)]))))) (by rw [hr];rfl) ⟨by omega,by simp,by omega,by omega⟩ (by simp [e14,e15]) (fun w hw h0=>by obtain ⟨t1,t2,t3⟩:=tkl w h0;simp [t1,t2,t3]) (by simp;omega)
    rw [hr] at hput
    refine ⟨by trivial,by simp [f1],by simp [f3],by simp [f4],by simp [f5],by simp [f16],by simp [fn],by simp [fi],by simp;omega,by simp [k1,k2,k3,hX],?_⟩
    refine ⟨by simp [e4,e11,hG],by simp [e0,e7,hW],by simp [e2,e9,hN],by simp [e3,e10,hL],by simp [e5,e12,hS],by simp [e6,e13,hB],by simp;omega,?_,_,_,by simp<;>rfl,hput⟩
    (repeat (first | exact hkp | (refine Keeps.trans ?_ (Keeps.new _ _)) | (refine Keeps.set ?_ (by omega) _)))
   ·rw [if_neg hr] at hget
    obtain ⟨hO,t0,tl,tu⟩:=hR.own xa hr
    obtain ⟨t1,t2,t3⟩:=tkl xa hr
    have t4:¬ X=tk xa:=fun e=>by rw [← e,hX] at hO;cases hO
    have hrl:(isN (ρ xa)).length=(ρ xa).length:=isN_length _
    have hrb:(ρ xa).length≤10000:=hρ _
    have p0:¬ p=tk xa:=by omega
    have p1:¬ p+1=tk xa:=by omega
    have p2:¬ p+2=tk xa:=by omega
    have p3:¬ p+3=tk xa:=by omega
    have p4:¬ p+4=tk xa:=by omega
    have p5:¬ p+5=tk xa:=by omega
    have p6:¬ p+6=tk xa:=by omega
    (refine w_s [] [X,p+4,p+1] [(0,true),(1,true),(2,true),(3,true),(4,true),(5,true),(6,true),(7,true),(8,true),(9,true),(10,true),(11,true),(12,true),(13,true),(14,true),(15,true),(16,false)] ?_;intro J hJ;simp [f3,f4,f5,hX,hW,hA,hget,hO,hrl,t0,t1,t4,p1,p4,k1,k2,k3,e0,e1,e4,e7,e8,e14,e15];(repeat refine ca ?_);(refine hJ _ _ ?_;clear hJ J;simp only [ak,reduceIte]))
    have hput:=hR.put xa j (t:=s2.next+1) (n:=(ρ xa).length+1) (st':=((((s2.new (.own 3 1 1)).set (tk xa) .dead).new (.own 3 1 ((ρ xa).length+1))).set (p+1) (.map false [.u32] (mset ea [xa] (.sl (s2.next+1) ((ρ xa).length+1) (isN (ρ xa)++[i (j:Int)]))))) ) rfl ⟨by omega,by simp,by omega,by omega⟩ (by simp [e14,e15]) (fun w hw h0=>by obtain ⟨u1,u2,u3⟩:=tkl w h0;have u4:¬ tk w=tk xa:=fun e=>hw (hR.inj w xa h0 hr e);simp [u1,u2,u3,u4]) (by simp;omega)
    refine ⟨by trivial,by simp [f1],by simp [f3],by simp [f4],by simp [f5],by simp [f16],by simp [fn],by simp [fi],by simp;omega,by simp [k1,k2,k3,t4,hX],?_⟩
    refine ⟨by simp [p0,e4,e11,hG],by simp [p4,e0,e7,hW],by simp [p2,e2,e9,hN],by simp [p3,e3,e10,hL],by simp [p5,e5,e12,hS],by simp [p6,e6,e13,hB],by simp;omega,?_,_,_,by simp<;>rfl,hput⟩
    (repeat (first | exact hkp | (refine Keeps.trans ?_ (Keeps.new _ _)) | (refine Keeps.set ?_ (by omega) _)))
  clear f1 f3 f4 f5 f16 fi fn hXl hX hI fr s2
  rintro fr s2 ⟨f1,f3,f4,f5,f16,fn,fi,hXl,hX,hI⟩
  have hρ':∀ w,((addR ρ xa j) w).length≤10001:=fun w=>by
   have h1:=hρ xa
   have h2:=hρ w
   unfold addR
   split
   ·rw [List.length_append,List.length_singleton];omega
   ·omega
  refine awp_cutZ (fun f T=>f 1=.pt p 0∧f 3=.pt (p+4) 0∧f 4=i j∧f 5=.pt X 0∧f 16=.sl 0 g.es.length (eds g.es)∧f 17=i g.es.length∧f 18=i j∧X < T.next∧T.H X=.box 38 3 [u id,u xa,u xb]∧AtI g p st (addR (addR ρ xa j) xb j) T) ?_ ?_
  ·obtain ⟨hG,hW,hN,hL,hS,hB,hnx,hkp,ea,tk,hA,hR⟩:=hI
   have hget:=hR.get xb
   have k1:¬ X=s2.next:=by omega
   have k2:¬ X=s2.next+1:=by omega
   have k3:¬ X=p+1:=by omega
   have e0:¬ p+4=s2.next:=by omega
   have e1:¬ p+1=s2.next:=by omega
   have e2:¬ p+2=s2.next:=by omega
   have e3:¬ p+3=s2.next:=by omega
   have e4:¬ p=s2.next:=by omega
   have e5:¬ p+5=s2.next:=by omega
   have e6:¬ p+6=s2.next:=by omega
   have e7:¬ p+4=s2.next+1:=by omega
   have e8:¬ p+1=s2.next+1:=by omega
   have e9:¬ p+2=s2.next+1:=by omega
   have e10:¬ p+3=s2.next+1:=by omega
   have e11:¬ p=s2.next+1:=by omega
   have e12:¬ p+5=s2.next+1:=by omega
   have e13:¬ p+6=s2.next+1:=by omega
   have e14:¬ s2.next+1=p+1:=by omega
   have e15:¬ s2.next=p:=by omega
   have tkl:∀ w,(addR ρ xa j) w≠[]→¬ tk w=s2.next∧¬ tk w=s2.next+1∧¬ tk w=p+1:=fun w hw=>by have:=(hR.own w hw).2;omega
   by_cases hr:(addR ρ xa j) xb=[]
   ·rw [if_pos hr] at hget
    (refine w_s [] [X,p+4,p+1] [(0,true),(1,true),(2,true),(3,true),(4,true),(5,true),(6,true),(7,true),(8,true),(9,true),(10,true),(11,true),(12,true),(13,true),(14,true),(15,true),(16,false)] ?_;intro J hJ;simp [f3,f4,f5,hX,hW,hA,hget,k1,k2,k3,e0,e1,e4,e7,e8,e14,e15];(repeat refine ca ?_);(refine hJ _ _ ?_;clear hJ J;simp only [ak,reduceIte]))
    have hput:=hR.put xb j (t:=s2.next+1) (n:=1) (st':=(((s2.new (.own 3 1 1)).new (.own 3 1 1)).set (p+1) (.map false [.u32] (mset ea [xb] (.sl (s2.next+1) 1 [i (j:Int)]))))) (by rw [hr];rfl) ⟨by omega,by simp,by omega,by omega⟩ (by simp [e14,e15]) (fun w hw h0=>by obtain ⟨t1,t2,t3⟩:=tkl w h0;simp [t1,t2,t3]) (by simp;omega)
    rw [hr] at hput
    refine ⟨by trivial,by simp [f1],by simp [f3],by simp [f4],by simp [f5],by simp [f16],by simp [fn],by simp [fi],by simp;omega,by simp [k1,k2,k3,hX],?_⟩
    refine ⟨by simp [e4,e11,hG],by simp [e0,e7,hW],by simp [e2,e9,hN],by simp [e3,e10,hL],by simp [e5,e12,hS],by simp [e6,e13,hB],by simp;omega,?_,_,_,by simp<;>rfl,hput⟩
    (repeat (first | exact hkp | (refine Keeps.trans ?_ (Keeps.new _ _)) | (refine Keeps.set ?_ (by omega) _)))
   ·rw [if_neg hr] at hget
    obtain ⟨hO,t0,tl,tu⟩:=hR.own xb hr
    obtain ⟨t1,t2,t3⟩:=tkl xb hr
    have t4:¬ X=tk xb:=fun e=>by rw [← e,hX] at hO;cases hO
    have hrl:(isN ((addR ρ xa j) xb)).length=((addR ρ xa j) xb).length:=isN_length _
    have hrb:((addR ρ xa j) xb).length≤10001:=hρ' _
    have p0:¬ p=tk xb:=by omega
    have p1:¬ p+1=tk xb:=by omega
    have p2:¬ p+2=tk xb:=by omega
    have p3:¬ p+3=tk xb:=by omega
    have p4:¬ p+4=tk xb:=by omega
    have p5:¬ p+5=tk xb:=by omega
    have p6:¬ p+6=tk xb:=by omega
    (refine w_s [] [X,p+4,p+1] [(0,true),(1,true),(2,true),(3,true),(4,true),(5,true),(6,true),(7,true),(8,true),(9,true),(10,true),(11,true),(12,true),(13,true),(14,true),(15,true),(16,false)] ?_;intro J hJ;simp [f3,f4,f5,hX,hW,hA,hget,hO,hrl,t0,t1,t4,p1,p4,k1,k2,k3,e0,e1,e4,e7,e8,e14,e15];(repeat refine ca ?_);(refine hJ _ _ ?_;clear hJ J;simp only [ak,reduceIte]))
    have hput:=hR.put xb j (t:=s2.next+1) (n:=((addR ρ xa j) xb).length+1) (st':=((((s2.new (.own 3 1 1)).set (tk xb) .dead).new (.own 3 1 (((addR ρ xa j) xb).length+1))).set (p+1) (.map false [.u32] (mset ea [xb] (.sl (s2.next+1) (((addR ρ xa j) xb).length+1) (isN ((addR ρ xa j) xb)++[i (j:Int)]))))) ) rfl ⟨by omega,by simp,by omega,by omega⟩ (by simp [e14,e15]) (fun w hw h0=>by obtain ⟨u1,u2,u3⟩:=tkl w h0;have u4:¬ tk w=tk xb:=fun e=>hw (hR.inj w xb h0 hr e);simp [u1,u2,u3,u4]) (by simp;omega)
    refine ⟨by trivial,by simp [f1],by simp [f3],by simp [f4],by simp [f5],by simp [f16],by simp [fn],by simp [fi],by simp;omega,by simp [k1,k2,k3,t4,hX],?_⟩
    refine ⟨by simp [p0,e4,e11,hG],by simp [p4,e0,e7,hW],by simp [p2,e2,e9,hN],by simp [p3,e3,e10,hL],by simp [p5,e5,e12,hS],by simp [p6,e6,e13,hB],by simp;omega,?_,_,_,by simp<;>rfl,hput⟩
    (repeat (first | exact hkp | (refine Keeps.trans ?_ (Keeps.new _ _)) | (refine Keeps.set ?_ (by omega) _)))
  rintro fr s3 ⟨f1,f3,f4,f5,f16,fn,fi,hXl,hX,hI⟩
  simp only [ak]
  exact hJO _ _ (by simp [fi]) (by simp [fn]) ⟨f1,f3,f16,hI⟩
 ·clear x1 x2 x3 x4 x5 x6
  rintro fr s1 ⟨f1,f3,f16,hI⟩
  have hI':=hI
  obtain ⟨hG,hW,hN,hL,hSt,hB,hnx,hkp,ea,tk,hA,hR⟩:=hI'
  have hget:∀ v,mget ea [v]=if atP g.es v=[] then none else some (.sl (tk v) (atP g.es v).length (isN (atP g.es v))):=hR.get
  have hb0:BwAt g (p+1) (p+4) (p+1) (p+2) (p+3) tk ⟨[],[],[],[]⟩ s1:=by
   refine ⟨⟨p+5,p+6,[],ea,hW,⟨hA,hget⟩,hN,hL,⟨hSt,rfl⟩,hB,⟨by omega,by omega,by omega⟩,by omega,by omega,by omega,by omega⟩,⟨by omega,by omega,by omega,by omega⟩,by omega,by omega,by omega,by omega⟩
  have hall0:BAll g ⟨[],[],[],[]⟩:=⟨rfl,.nil,fun w hw=>(by cases hw),fun w hw=>(by cases hw),rfl,fun i=>by simp,by simp,fun B hB=>(by cases hB)⟩
  clear hW hN hL hSt hB hA hR hI
  (repeat' (first | refine qS ?_ | refine qB ?_ | (refine w_e [] ?_;intro J hJ;simp only [];simp [f1,hG];(refine hJ _ _ ?_;clear hJ J;simp only [ak,reduceIte]))))
  refine awp_range 59 58 60 73 (g.vs.length) (fun j fr st2=>fr 1=.pt p 0∧fr 3=.pt (p+4) 0∧fr 57=.sl 0 g.vs.length (us g.vs)∧KbB (p+1) s1 st2∧∃ sB,allB g.es g.vs.length (g.vs.take j) ⟨[],[],[],[]⟩=some sB∧BAll g sB∧BwAt g (p+1) (p+4) (p+1) (p+2) (p+3) tk sB st2) ?_ ?_ ?_
  ·exact ⟨by simp [f1],by simp [f3],by simp,KbB.refl _ _,_,rfl,hall0,hb0⟩
  ·clear f1 f3 f16 hb0 hall0 fr
   rintro j fr s2 hlt ⟨f1,f3,f57,hkb,sB,hsB,hall,hbw⟩ fi fn JO hJO
   have hd:=qG g.vs j hlt
   have hvm:g.vs.getD j 0∈g.vs:=by rw [getD_lt _ _ hlt];exact List.getElem_mem _
   have htk:g.vs.take (j+1)=g.vs.take j++[g.vs.getD j 0]:=by rw [List.take_succ_eq_append_getElem hlt,getD_lt _ _ hlt]
   rw [htk,allB_app,hsB] at hJO
   simp only [Option.bind_some] at hJO
   generalize g.vs.getD j 0=v at *
   have hm:=mget_nb sB.vis v
   have hsz:=hall.sz
   obtain ⟨s3,e3,hall3,_,_⟩:=all_ok hg g.vs.length (Nat.le_refl _) [v] sB (fun w hw=>by rw [List.mem_singleton] at hw;rw [hw];exact hvm) hall
   rw [e3] at hJO
   have hbw':=hbw
   obtain ⟨⟨tS,tB,CS,ea2,jW,-,jN,-,-,-,-,-⟩,-,-⟩:=hbw'
   by_cases hin:v∈sB.vis
   ·rw [if_pos hin] at hm
    have e4:s3=sB:=by
     unfold allB at e3
     rw [if_pos hin] at e3
     exact (Option.some.inj e3).symm
    have hz1:1≤nmW sB.vis v:=by unfold nmW;rw [if_pos hin];omega
    generalize nmW sB.vis v=z at *
    have hzb:(z==0)=false:=by rw [beq_eq_false_iff_ne];omega
    have hz0:¬ z=0:=by omega
    (repeat' (first | refine qS ?_ | (refine qK ?_;simp only [ak,reduceIte]) | (refine qC ?_;simp [f3,f57,fi,fn,hd,hlt,jW,jN,hm,hzb,hz0]) | (refine w_e [] ?_;intro J hJ;simp only [];simp [f3,f57,fi,fn,hd,hlt,jW,jN,hm,hzb,hz0];(refine hJ _ _ ?_;clear hJ J;simp only [ak,reduceIte]))))
    exact hJO _ _ (by simp [fi]) (by simp [fn]) ⟨by simp [f1],by simp [f3],by simp [f57],hkb,s3,rfl,hall3,by rw [e4];exact hbw⟩
   ·rw [if_neg hin] at hm
    have hpre:BPre g (fun _=>False) sB v (-1):=⟨hall.ln,hall.nd,fun a ha=>ha.elim,fun w hw _=>hall.fin w hw,hin,fun a b ha=>ha.elim,.inl ⟨rfl,fun a ha=>ha⟩⟩
    (repeat' (first | refine qS ?_ | (refine qC ?_;simp [f3,f57,fi,fn,hd,hlt,jW,jN,hm]) | (refine w_e [] ?_;intro J hJ;simp only [];simp [f3,f57,fi,fn,hd,hlt,jW,jN,hm];(try (refine hJ _ _ ?_;clear hJ J;simp only [ak,reduceIte])))))
    refine qE (visitS g hg (p+1) (p+4) (p+1) (p+2) (p+3) tk hv he g.vs.length _ sB v (-1) _ hpre hvm hall.sub (by omega) hsz hbw) (by simp) ?_;rintro r s4 ⟨s5,h5,hb5,hk5⟩
    have e5:s3=s5:=by
     unfold allB at e3
     rw [if_neg hin,h5] at e3
     exact (Option.some.inj e3).symm
    (repeat' (refine e_go ?_;simp [];(refine hJ _ _ ?_;clear hJ J;simp only [ak,reduceIte])))
    exact hJO _ _ (by simp [fi]) (by simp [fn]) ⟨by simp [f1],by simp [f3],by simp [f57],hkb.trans hk5,s3,rfl,hall3,by rw [e5];exact hb5⟩
  ·clear f1 f3 f16 hb0 hall0 fr
   rintro fr s2 ⟨f1,f3,f57,hkb,sB,hsB,hall,hbw⟩
   rw [List.take_length,hS] at hsB
   obtain rfl:=Option.some.inj hsB
   have hsz:=hall.sz
   obtain ⟨_,sb⟩:=sz_bound hv he hall.nd hall.sub
   obtain ⟨⟨tS,tB,CS,ea2,jW,-,jN,-,-,jB,-,b1,b2,b3,b4⟩,-,d1,-⟩:=hbw
   (repeat' (first | refine qS ?_ | (refine w_e [] ?_;intro J hJ;simp only [];simp [f3,jW])))
   refine qE (SortB hids S.out hSa hSb hSn tB _ (by have:=hsz.2;have:=out_few hSa hSb hSn;omega) b4 jB) (by simp) ?_;rintro r s4 ⟨h1,h2,h3⟩
   have hW4:=(h3.2 (p+4) (box_neB jW jB (by simp)) d1).trans jW
   have hle:=h2.length_eq
   (repeat' (first | refine qS ?_ | (refine qR ?_;simp only [ak,reduceIte];simp [f3,hW4]) | ((first | (refine w_e [] ?_;intro J hJ;simp only []) | (refine e_go ?_));simp [f3,hW4];(refine hJ _ _ ?_;clear hJ J;simp only [ak,reduceIte]))))
   refine ⟨tB,by simp [hle],h1,by omega,Nat.lt_of_lt_of_le b4 h3.1,?_⟩
   refine ⟨Nat.le_trans hkp.next (Nat.le_trans hkb.next h3.1),fun x hx=>?_⟩
   rw [h3.2 x (by omega) (by have:=hkb.next;omega),hkb.H x (by omega),hkp.H x hx]
theorem belL_edsB (n:Nat):∀ l:List Ed,belL n (eds l):=fun l=>by
 induction l with
 | nil=>simp only [eds,List.flatMap_nil,belL]
 | cons x l ih=>simp only [eds,List.flatMap_cons,edL,List.cons_append,List.nil_append,belL];exact ⟨trivial,trivial,trivial,ih⟩
theorem belL_bk (n:Nat) (es:List Ed):∀ out:List (List Nat),belL n (bkL es out):=fun out=>by
 induction out with
 | nil=>simp only [bkL,List.map_nil,belL]
 | cons B out ih=>simp only [bkL,List.map_cons,belL];exact ⟨⟨.inl rfl,belL_edsB _ _⟩,ih⟩
theorem Blocks (g:Gr) (hg:GoodE g) (st:St) (hv:g.vs.length≤100) (he:g.es.length≤10):
 ACalls Tryz.prog 58 [.ag (grL g)] st fun r st'=>r=.sl 0 (ledB g.es).length (bkL g.es (ledB g.es))∧st'=st:=by
 refine qT (Q:=fun r=>r=.sl 0 (ledB g.es).length (bkL g.es (ledB g.es))) (acalls_freeze ((BlocksK g hg st hv he).mono ?_)) fun r h=>by subst h;exact ⟨.inl rfl,belL_bk _ _ _⟩
 rintro r s ⟨q,rfl,hH,hq,hq2,hk⟩
 have hl:=bkL_length g.es (ledB g.es)
 exact ⟨q,_,_,_,_,rfl,hH,by rw [hl,Nat.mul_one];exact Nat.le_refl _,by rw [List.take_of_length_le (by rw [hl,Nat.mul_one];exact Nat.le_refl _)],hk.set hq _⟩
end Go.Proofs.YtiiejclelbilkaaGreatDoor.Aw
namespace Go.Proofs.YtiiejclelbilkaaGreatDoor.Aw
open Go Go.RowKit Go.Proofs.YtiiejclelbilkaaGreatDoor.Pl
set_option linter.unusedSimpArgs false
set_option linter.unusedVariables false
def embR:Option Mp→LV
 | none=>.tu [.ag [.sl 0 0 [],.sl 0 0 [],.sl 0 0 []],bb false]
 | some m=>.tu [.ag (mpL m),bb true]
noncomputable def blksG (g:Gr):List (List Ed):=(ledB (sE g.es)).map fun B=>B.map (eAt (sE g.es))
def edsLs (l:List (List Ed)):List LV:=l.map fun l=>.sl 0 l.length (eds l)
theorem sE_sublist (l:List Ed):(sE l).Sublist l:=by
 induction l using snocI with
 | h0=>exact List.Sublist.refl _
 | h1 l x ih=>
   rw [sE_snoc]
   split
   ·exact ih.trans (List.sublist_append_left _ _)
   ·exact ih.append (List.Sublist.refl _)
theorem GoodE.simple {g:Gr} (h:GoodE g):GoodE ⟨g.vs,sE g.es⟩:=
 ⟨⟨h.rise,fun x hx=>h.ends x (sE_sub _ x hx)⟩,h.ids.sublist (sE_sublist _),fun x hx=>h.pos x (sE_sub _ x hx),fun x hx=>h.ne x (sE_sub _ x hx)⟩
theorem blksG_len (g:Gr):(blksG g).length≤(sE g.es).length:=by
 unfold blksG ledB
 rw [List.length_map,List.length_map]
 exact Nat.le_trans (List.length_filter_le _ _) (by rw [List.length_range];exact Nat.le_refl _)
theorem ledB_okP {g:Gr} (hg:GoodE g) {B:List Nat} (hB:B∈ledB g.es):BlkOk g.es B:=by
 unfold ledB at hB
 obtain ⟨i,hi,rfl⟩:=List.mem_map.1 hB
 rw [List.mem_filter,List.mem_range] at hi
 obtain ⟨s,_,_,h2,_,h3⟩:=blocks_ok hg
 obtain ⟨B,hB,hiB⟩:=List.mem_flatten.1 ((h2 i).2 hi.1)
 rw [← (h3 B hB).cls hiB]
 exact h3 B hB
theorem blksG_dr {g:Gr} (hg:GoodE g) {l:List Ed} (hl:l∈blksG g):DrE l∧∀ e∈l,e∈g.es:=by
 unfold blksG at hl
 obtain ⟨B,hB,rfl⟩:=List.mem_map.1 hl
 have hg2:=hg.simple
 have hB:BlkOk (sE g.es) B:=ledB_okP hg2 hB
 have hin:∀ e∈B.map (eAt (sE g.es)),e∈sE g.es:=fun e he=>by
  obtain ⟨i,hi,rfl⟩:=List.mem_map.1 he
  have e:eAt (sE g.es) i=(sE g.es)[i]'(hB.lt i hi):=getE_lt _ _ (hB.lt i hi)
  rw [e]
  exact List.getElem_mem _
 refine ⟨⟨?_,fun x hx=>hg2.pos x (hin x hx),fun x hx=>hg2.ne x (hin x hx)⟩,fun e he=>sE_sub _ e (hin e he)⟩
 rw [List.pairwise_map]
 refine hB.rise.imp_of_mem fun {i j} hi hj hij=>?_
 have e:∀ k,(hk:k∈B)→eAt (sE g.es) k=(sE g.es)[k]'(hB.lt k hk):=fun k hk=>getE_lt _ _ (hB.lt k hk)
 rw [e i hi,e j hj]
 exact List.pairwise_iff_getElem.1 hg2.ids i j (hB.lt i hi) (hB.lt j hj) hij
theorem z0m (R:List (List Int)):z0L (R.map fun r=>LV.sl 0 r.length (us r))=R.map fun r=>LV.sl 0 r.length (us r):=by
 induction R with
 | nil=>rfl
 | cons r R ih=>simp only [List.map_cons,z0L,z0,z0_us];rw [ih]
theorem edsLs_drop (l:List (List Ed)) (j:Nat) (h:j < l.length):(edsLs l).drop j=.sl 0 (l.getD j []).length (eds (l.getD j []))::edsLs (l.drop (j+1)):=by
 unfold edsLs
 rw [← List.map_drop,List.drop_eq_getElem_cons h,List.getD_eq_getElem?_getD,List.getElem?_eq_getElem h];rfl
theorem insJ_len (x:Int):∀ l,(insJ x l).length≤l.length+1
 | []=>by simp [insJ]
 | y::l=>by
   have:=insJ_len x l
   unfold insJ
   split
   ·simp
   ·split
    ·simp;omega
    ·simp
theorem srtF_len:∀ l,(srtF l).length≤l.length
 | []=>by simp [srtF]
 | x::l=>by
   have h:=srtF_len l
   have h2:=insJ_len x (srtF l)
   unfold srtF at h h2 ⊢
   rw [List.foldr_cons,List.length_cons];omega
theorem sum3P (l:List Ed):(List.map (fun _:Ed=>3) l).sum=l.length * 3:=by
 induction l with
 | nil=>rfl
 | cons x l ih=>simp only [List.map_cons,List.sum_cons,List.length_cons,ih];omega
def TI (M1 M2 a:Nat) (s3 s8:St) (T:TL) (st:St):Prop:=Keeps s3 st∧s8.next≤st.next∧(∀ l,a≤l→l < s8.next→st.H l=s8.H l)∧∃ A,MRow false [.u32] 26 1 A M2 M2 st∧RowA T A∧∀ x∈A,x.2.1 < a∨s8.next≤x.2.1
set_option maxHeartbeats 8000000 in
theorem sEmbed (g:Gr) (hv:g.vs.length≤1000) (he:g.es.length≤10) {o:Option Mp} (ho:(if chk g=0 then embedF g (blksG g) else some none)=some o) (st:St):
 ACalls Tryz.prog 29 [.ag (grL g)] st fun r st'=>r=embR o∧Keeps st st':=by
 refine acalls_z0 ?_
 have hel:=eds_length g.es
 refine qO tabOk Tryz.func29 rfl rfl Tryz.ntmps29 (rs:=[.cell 2 46,.tmp 3]) rfl (by simp) ?_
 refine awp_posG fun hpos=>?_
 (repeat' (first | refine qS ?_ | (refine w_e [] ?_;intro J hJ;simp only [];simp [];(try (refine hJ _ _ ?_;clear hJ J;simp only [ak,reduceIte])))))
 refine qE (Check g _ hv (by omega)) (by simp) ?_;rintro r s1 ⟨rfl,hk1⟩
 have hn1:=hk1.next
 simp only [new_next] at hn1
 have hG1:s1.H st.next=.box 35 2 (grL g):=by rw [hk1.H _ (by simp;omega)];simp
 have hO1:s1.H (st.next+1)=.box 46 3 [.nil,.nil,.nil]:=by rw [hk1.H _ (by simp)];simp
 have hK1:Keeps st s1:=((Keeps.new _ _).trans (Keeps.new _ _)).trans hk1
 by_cases hc:chk g=0
 case neg=>
  rw [if_neg hc] at ho
  obtain rfl:none=o:=Option.some.inj ho
  have hc2:(chk g != 0)=true:=by simpa using hc
  (repeat' (first | refine qS ?_ | (refine qR ?_;simp only [ak,reduceIte];simp [hc2,hO1]) | (refine qC ?_;simp [hc2,hO1]) | ((first | (refine w_e [] ?_;intro J hJ;simp only []) | (refine e_go ?_));simp [hc2,hO1];(refine hJ _ _ ?_;clear hJ J;simp only [ak,reduceIte]))))
  exact ⟨by simp [embR,z0,z0L],hK1.set (by omega) _⟩
 rw [if_pos hc] at ho
 have hgE:=chk_goodE hc
 have hg2:=hgE.simple
 have hc2:(chk g != 0)=false:=by simpa using hc
 have e1:¬ st.next=s1.next:=by omega
 (repeat' (first | refine qS ?_ | refine qB ?_ | (refine qK ?_;simp only [ak,reduceIte]) | (refine qC ?_;simp [hc2,hG1,e1]) | ((first | (refine w_e [] ?_;intro J hJ;simp only []) | (refine e_go ?_));simp [hc2,hG1,e1];(refine hJ _ _ ?_;clear hJ J;simp only [ak,reduceIte]))))
 refine awp_range 27 26 28 47 (g.es.length) (fun j fr st2=>fr 1=.pt st.next 0∧fr 2=.pt (st.next+1) 0∧fr 4=.mp s1.next∧fr 25=.sl 0 g.es.length (eds g.es)∧Keeps s1 st2∧∃ A,MRow true [.u32,.u32] 38 3 A s1.next s1.next st2∧BunA (g.es.take j) A) ?_ ?_ ?_
 ·exact ⟨by simp,by simp,by simp,by simp,Keeps.new _ _,[],⟨by simp [rmL],by simp,by simp,by simp,by simp⟩,⟨by simp,by simp⟩⟩
 ·rintro j fr s hlt ⟨f1,f2,f4,f25,hk,A,hA,hB⟩ fi fn JO hJO
  have hd:=eds_drop g.es j hlt
  have hk3:j * 3 < g.es.length * 3:=by omega
  have htk:g.es.take (j+1)=g.es.take j++[g.es.getD j ed0]:=by rw [getE_lt _ _ hlt];exact List.take_succ_eq_append_getElem hlt
  have hget:=hB.get hA.nd (prE (g.es.getD j ed0))
  have hadd:=hB.add hA.nd (g.es.getD j ed0)
  rw [← htk] at hadd
  have hEl:(g.es.take j).length≤200:=by rw [List.length_take];omega
  generalize g.es.take j=E at *
  generalize g.es.take (j+1)=E' at *
  generalize g.es.getD j ed0=x at *
  obtain ⟨d,a,b⟩:=x
  have hbl:(bunP E (prP a b)).length≤200:=Nat.le_trans (List.length_filter_le _ _) hEl
  simp only [prE,prP,pk] at hget hadd hbl hd
  have hM:=hA.map
  have hMl:=rmL_get [min a b,max a b] A
  have c0:¬ s1.next=s.next:=by have:=hA.mlt;omega
  (repeat' (first | refine qS ?_ | (refine w_e [] ?_;intro J hJ;simp only [];simp [f25,fi,fn,hlt,hd,hel,hk3];(refine hJ _ _ ?_;clear hJ J;simp only [ak,reduceIte]))))
  refine awp_cutB (fun f s'=>f 1=.pt st.next 0∧f 2=.pt (st.next+1) 0∧f 4=.mp s1.next∧f 25=.sl 0 g.es.length (eds g.es)∧f 26=i g.es.length∧f 27=i j∧Keeps s1 s'∧∃ A,MRow true [.u32,.u32] 38 3 A s1.next s1.next s'∧BunA E' A) ?_ ?_
  rotate_left
  ·rintro fr s' ⟨f1,f2,f4,f25,fn,fi,hk',hA'⟩
   exact hJO _ _ fi fn ⟨by simp [f1],by simp [f2],by simp [f4],by simp [f25],hk',hA'⟩
  have hx0:¬ s.next=s1.next:=fun e=>c0 e.symm
  have x1:¬ s1.next=s.next+1:=by have:=hA.mlt;omega
  have x2:¬ s.next+1=s1.next:=fun e=>x1 e.symm
  have x3:¬ s1.next=s.next+1+1:=by have:=hA.mlt;omega
  have x4:¬ s.next+1+1=s1.next:=fun e=>x3 e.symm
  rcases hget with ⟨hnil,hgn⟩ | ⟨t,hgs⟩
  ·rw [hgn] at hMl
   simp only [Option.map_none] at hMl
   have hadd:=hadd (s.next+1+1)
   rw [hnil] at hadd
   simp only [eds,List.flatMap_nil,List.nil_append,List.length_nil,Nat.zero_add] at hadd
   have hfin:∀ f:Frm,f 1=.pt st.next 0→f 2=.pt (st.next+1) 0→f 4=.mp s1.next→f 25=.sl 0 g.es.length (eds g.es)→f 26=i g.es.length→f 27=i j→(f 1=.pt st.next 0∧f 2=.pt (st.next+1) 0∧f 4=.mp s1.next∧f 25=.sl 0 g.es.length (eds g.es)∧f 26=i g.es.length∧f 27=i j∧Keeps s1 ((((s.new (.box 38 3 [u d,u a,u b])).new (.own 38 3 1)).new (.own 38 3 1)).set s1.next (.map true [.u32,.u32] (mset (rmL A) [min a b,max a b] (.sl (s.next+1+1) 1 [u d,u a,u b]))))∧∃ A',MRow true [.u32,.u32] 38 3 A' s1.next s1.next ((((s.new (.box 38 3 [u d,u a,u b])).new (.own 38 3 1)).new (.own 38 3 1)).set s1.next (.map true [.u32,.u32] (mset (rmL A) [min a b,max a b] (.sl (s.next+1+1) 1 [u d,u a,u b]))))∧BunA E' A'):=fun f q1 q2 q3 q4 q5 q6=>
    ⟨q1,q2,q3,q4,q5,q6,(((hk.trans (Keeps.new _ _)).trans (Keeps.new _ _)).trans (Keeps.new _ _)).set (Nat.le_refl _) _,_,hA.put (k:=[min a b,max a b]) (t:=s.next+1+1) (n:=1) (c:=[u d,u a,u b]) ⟨by omega,by simp⟩ (by simp;omega) hk.next (by omega) (by simp [rmV]) (by simp [x4]) (fun l hl hlm _=>by simp [show ¬ l=s.next by omega,show ¬ l=s.next+1 by omega,show ¬ l=s.next+1+1 by omega,hlm]),hadd⟩
   refine w_a [] [s1.next,s.next] ?_;intro J hJ
   refine a_pre 6 [(0,true),(1,true),(2,true),(3,true),(4,true),(6,true),(7,true),(8,true),(9,true),(10,true),(13,true)] ?_
   simp [f4,c0,hx0,hM,hMl,x1,x2,x3,x4]
   refine a_alt2 5 (5,true) (14,true) ?_ ?_
   ·simp [f4,c0,hx0,hM,hMl,x1,x2,x3,x4]
    refine qD (pair a b _) (by simp) ?_;rintro r s5 ⟨rfl,e5⟩
    rw [e5];clear e5 s5
    refine ⟨fun h=>by first | (cases h;done) | exact fun _ _=>rfl | simp [f4,c0,hx0,hM,hMl,x1,x2,x3,x4],?_⟩
    refine a_alt2 4 (11,true) (14,true) ?_ ?_
    ·simp [f4,c0,hx0,hM,hMl,x1,x2,x3,x4]
     refine qD (pair a b _) (by simp) ?_;rintro r s5 ⟨rfl,e5⟩
     rw [e5];clear e5 s5
     refine ⟨fun h=>by first | (cases h;done) | exact fun _ _=>rfl | simp [f4,c0,hx0,hM,hMl,x1,x2,x3,x4],?_⟩
     refine a_pre 0 [(12,true),(14,true),(15,true),(16,false)] ?_
     simp [f4,c0,hx0,hM,hMl,x1,x2,x3,x4]
     refine ⟨by unfold maxLen;omega,aany_end (hJ _ _ ?_)⟩
     simp only [ak]
     refine ⟨trivial,hfin _ ?_ ?_ ?_ ?_ ?_ ?_⟩<;>simp [f1,f2,f4,f25,fn,fi]
    ·simp [f4,c0,hx0,hM,hMl,x1,x2,x3,x4]
     refine a_pre 0 [(11,true),(12,true),(15,true),(16,false)] ?_
     simp [f4,c0,hx0,hM,hMl,x1,x2,x3,x4]
     refine qD (pair a b _) (by simp) ?_;rintro r s5 ⟨rfl,e5⟩
     rw [e5];clear e5 s5
     refine ⟨fun h=>by first | (cases h;done) | exact fun _ _=>rfl | simp [f4,c0,hx0,hM,hMl,x1,x2,x3,x4],?_⟩
     simp [f4,c0,hx0,hM,hMl,x1,x2,x3,x4]
     refine ⟨by unfold maxLen;omega,aany_end (hJ _ _ ?_)⟩
     simp only [ak]
     refine ⟨trivial,hfin _ ?_ ?_ ?_ ?_ ?_ ?_⟩<;>simp [f1,f2,f4,f25,fn,fi]
   ·simp [f4,c0,hx0,hM,hMl,x1,x2,x3,x4]
    refine a_pre 0 [(5,true),(11,true),(12,true),(15,true),(16,false)] ?_
    simp [f4,c0,hx0,hM,hMl,x1,x2,x3,x4]
    refine qD (pair a b _) (by simp) ?_;rintro r s5 ⟨rfl,e5⟩
    rw [e5];clear e5 s5
    refine ⟨fun h=>by first | (cases h;done) | exact fun _ _=>rfl | simp [f4,c0,hx0,hM,hMl,x1,x2,x3,x4],?_⟩
    simp [f4,c0,hx0,hM,hMl,x1,x2,x3,x4]
    refine qD (pair a b _) (by simp) ?_;rintro r s5 ⟨rfl,e5⟩
    rw [e5];clear e5 s5
    refine ⟨fun h=>by first | (cases h;done) | exact fun _ _=>rfl | simp [f4,c0,hx0,hM,hMl,x1,x2,x3,x4],?_⟩
    simp [f4,c0,hx0,hM,hMl,x1,x2,x3,x4]
    refine ⟨by unfold maxLen;omega,aany_end (hJ _ _ ?_)⟩
    simp only [ak]
    refine ⟨trivial,hfin _ ?_ ?_ ?_ ?_ ?_ ?_⟩<;>simp [f1,f2,f4,f25,fn,fi]
  ·rw [hgs] at hMl
   simp only [Option.map_some] at hMl
   unfold rmV at hMl
   simp only at hMl
   obtain ⟨k1,k2,k3,k4⟩:=hA.tok _ (getM_mem hgs)
   simp only at k1 k2 k3 k4
   have y1:¬ t=s.next:=by omega
   have y2:¬ t=s.next+1:=by omega
   have y3:¬ s.next=t:=by omega
   have y4:¬ s.next+1=t:=by omega
   have y5:¬ s1.next=t:=fun e=>by rw [← e,hM] at k4;cases k4
   have y6:¬ t=s1.next:=fun e=>y5 e.symm
   have hsm:(List.map (fun _:Ed=>3) (bunP E (min a b,max a b))).sum=(bunP E (min a b,max a b)).length * 3:=sum3P _
   have hadd:=hadd (s.next+1+1)
   have hbe:=eds_length (bunP E (min a b,max a b))
   have hfin:∀ f:Frm,f 1=.pt st.next 0→f 2=.pt (st.next+1) 0→f 4=.mp s1.next→f 25=.sl 0 g.es.length (eds g.es)→f 26=i g.es.length→f 27=i j→(f 1=.pt st.next 0∧f 2=.pt (st.next+1) 0∧f 4=.mp s1.next∧f 25=.sl 0 g.es.length (eds g.es)∧f 26=i g.es.length∧f 27=i j∧Keeps s1 (((((s.new (.box 38 3 [u d,u a,u b])).new (.own 38 3 1)).set t .dead).new (.own 38 3 ((bunP E (min a b,max a b)).length+1))).set s1.next (.map true [.u32,.u32] (mset (rmL A) [min a b,max a b] (.sl (s.next+1+1) ((bunP E (min a b,max a b)).length+1) (eds (bunP E (min a b,max a b))++[u d,u a,u b])))))∧∃ A',MRow true [.u32,.u32] 38 3 A' s1.next s1.next (((((s.new (.box 38 3 [u d,u a,u b])).new (.own 38 3 1)).set t .dead).new (.own 38 3 ((bunP E (min a b,max a b)).length+1))).set s1.next (.map true [.u32,.u32] (mset (rmL A) [min a b,max a b] (.sl (s.next+1+1) ((bunP E (min a b,max a b)).length+1) (eds (bunP E (min a b,max a b))++[u d,u a,u b])))))∧BunA E' A'):=fun f q1 q2 q3 q4 q5 q6=>
    ⟨q1,q2,q3,q4,q5,q6,((((hk.trans (Keeps.new _ _)).trans (Keeps.new _ _)).set k2 _).trans (Keeps.new _ _)).set (Nat.le_refl _) _,_,hA.put (k:=[min a b,max a b]) (t:=s.next+1+1) (n:=(bunP E (min a b,max a b)).length+1) (c:=eds (bunP E (min a b,max a b))++[u d,u a,u b]) ⟨by omega,by simp⟩ (by simp;omega) hk.next (by omega) (by simp [rmV]) (by simp [x4]) (fun l hl hlm hx=>by
      have:=hx _ hgs
      simp only at this
      simp [show ¬ l=s.next by omega,show ¬ l=s.next+1 by omega,show ¬ l=s.next+1+1 by omega,hlm,this]),hadd⟩
   refine w_a [] [s1.next,s.next] ?_;intro J hJ
   refine a_pre 6 [(0,true),(1,true),(2,true),(3,true),(4,true),(6,true),(7,true),(8,true),(9,true),(10,true),(13,true)] ?_
   simp [f4,c0,hx0,hM,hMl,x1,x2,x3,x4,y1,y2,y3,y4,y5,y6,k4,k1,hbe,hsm]
   refine a_alt2 5 (5,true) (14,true) ?_ ?_
   ·simp [f4,c0,hx0,hM,hMl,x1,x2,x3,x4,y1,y2,y3,y4,y5,y6,k4,k1,hbe,hsm]
    refine qD (pair a b _) (by simp) ?_;rintro r s5 ⟨rfl,e5⟩
    rw [e5];clear e5 s5
    refine ⟨fun h=>by first | (cases h;done) | exact fun _ _=>rfl | simp [f4,c0,hx0,hM,hMl,x1,x2,x3,x4,y1,y2,y3,y4,y5,y6,k4,k1,hbe,hsm],?_⟩
    refine a_alt2 4 (11,true) (14,true) ?_ ?_
    ·simp [f4,c0,hx0,hM,hMl,x1,x2,x3,x4,y1,y2,y3,y4,y5,y6,k4,k1,hbe,hsm]
     refine qD (pair a b _) (by simp) ?_;rintro r s5 ⟨rfl,e5⟩
     rw [e5];clear e5 s5
     refine ⟨fun h=>by first | (cases h;done) | exact fun _ _=>rfl | simp [f4,c0,hx0,hM,hMl,x1,x2,x3,x4,y1,y2,y3,y4,y5,y6,k4,k1,hbe,hsm],?_⟩
     refine a_pre 0 [(12,true),(14,true),(15,true),(16,false)] ?_
     simp [f4,c0,hx0,hM,hMl,x1,x2,x3,x4,y1,y2,y3,y4,y5,y6,k4,k1,hbe,hsm]
     refine ⟨by unfold maxLen;omega,aany_end (hJ _ _ ?_)⟩
     simp only [ak]
     refine ⟨trivial,hfin _ ?_ ?_ ?_ ?_ ?_ ?_⟩<;>simp [f1,f2,f4,f25,fn,fi]
    ·simp [f4,c0,hx0,hM,hMl,x1,x2,x3,x4,y1,y2,y3,y4,y5,y6,k4,k1,hbe,hsm]
     refine a_pre 0 [(11,true),(12,true),(15,true),(16,false)] ?_
     simp [f4,c0,hx0,hM,hMl,x1,x2,x3,x4,y1,y2,y3,y4,y5,y6,k4,k1,hbe,hsm]
     refine qD (pair a b _) (by simp) ?_;rintro r s5 ⟨rfl,e5⟩
     rw [e5];clear e5 s5
     refine ⟨fun h=>by first | (cases h;done) | exact fun _ _=>rfl | simp [f4,c0,hx0,hM,hMl,x1,x2,x3,x4,y1,y2,y3,y4,y5,y6,k4,k1,hbe,hsm],?_⟩
     simp [f4,c0,hx0,hM,hMl,x1,x2,x3,x4,y1,y2,y3,y4,y5,y6,k4,k1,hbe,hsm]
     refine ⟨by unfold maxLen;omega,aany_end (hJ _ _ ?_)⟩
     simp only [ak]
     refine ⟨trivial,hfin _ ?_ ?_ ?_ ?_ ?_ ?_⟩<;>simp [f1,f2,f4,f25,fn,fi]
   ·simp [f4,c0,hx0,hM,hMl,x1,x2,x3,x4,y1,y2,y3,y4,y5,y6,k4,k1,hbe,hsm]
    refine a_pre 0 [(5,true),(11,true),(12,true),(15,true),(16,false)] ?_
    simp [f4,c0,hx0,hM,hMl,x1,x2,x3,x4,y1,y2,y3,y4,y5,y6,k4,k1,hbe,hsm]
    refine qD (pair a b _) (by simp) ?_;rintro r s5 ⟨rfl,e5⟩
    rw [e5];clear e5 s5
    refine ⟨fun h=>by first | (cases h;done) | exact fun _ _=>rfl | simp [f4,c0,hx0,hM,hMl,x1,x2,x3,x4,y1,y2,y3,y4,y5,y6,k4,k1,hbe,hsm],?_⟩
    simp [f4,c0,hx0,hM,hMl,x1,x2,x3,x4,y1,y2,y3,y4,y5,y6,k4,k1,hbe,hsm]
    refine qD (pair a b _) (by simp) ?_;rintro r s5 ⟨rfl,e5⟩
    rw [e5];clear e5 s5
    refine ⟨fun h=>by first | (cases h;done) | exact fun _ _=>rfl | simp [f4,c0,hx0,hM,hMl,x1,x2,x3,x4,y1,y2,y3,y4,y5,y6,k4,k1,hbe,hsm],?_⟩
    simp [f4,c0,hx0,hM,hMl,x1,x2,x3,x4,y1,y2,y3,y4,y5,y6,k4,k1,hbe,hsm]
    refine ⟨by unfold maxLen;omega,aany_end (hJ _ _ ?_)⟩
    simp only [ak]
    refine ⟨trivial,hfin _ ?_ ?_ ?_ ?_ ?_ ?_⟩<;>simp [f1,f2,f4,f25,fn,fi]
 ·rintro fr s ⟨f1,f2,f4,f25,hk,A,hA,hB⟩
  rw [List.take_length] at hB
  have hkn:=hk.next
  have hGs:s.H st.next=.box 35 2 (grL g):=(hk.H _ (by omega)).trans hG1
  have hOs:s.H (st.next+1)=.box 46 3 [.nil,.nil,.nil]:=(hk.H _ (by omega)).trans hO1
  (repeat' (first | refine qS ?_ | (refine w_e [] ?_;intro J hJ;simp only [];simp [f1,hGs])))
  refine qE (Simple g s (by omega) (by omega) (by omega)) (by simp) ?_;rintro r s2 ⟨rfl,hk2⟩
  have hkn2:=hk2.next
  have hA2:=hA.keep hk2
  have hK2:=hk.trans hk2
  have hsl:=sE_len g.es
  have hO2:=(hk2.H _ (by omega)).trans hOs
  have hG2:=(hk2.H _ (by omega)).trans hGs
  clear hk2 hOs hGs hA hk
  (repeat' (first | refine qS ?_ | ((first | (refine w_e [] ?_;intro J hJ;simp only []) | (refine e_go ?_));simp [];(try (refine hJ _ _ ?_;clear hJ J;simp only [ak,reduceIte])))))
  have hbk:=blksG_len g
  have hbl:bkL (sE g.es) (ledB (sE g.es))=edsLs (blksG g):=by simp [bkL,edsLs,blksG]
  have hbn:(ledB (sE g.es)).length=(blksG g).length:=by simp [blksG]
  have hblk:=Blocks ⟨g.vs,sE g.es⟩ hg2 ((s2.new (.box 35 2 [.sl 0 g.vs.length (us g.vs),.sl 0 (sE g.es).length (eds (sE g.es))])).new (.map false [.u32] [])) (Nat.le_trans (chk_good hc).2.2.1 (by decide)) (by simp only;omega)
  simp only [] at hblk
  rw [hbl,hbn] at hblk
  refine qE hblk (by simp [grL]) ?_;rintro r s3 ⟨rfl,e3⟩
  rw [e3];clear e3 s3 hblk
  have hk3:=Keeps.new s2 (.box 35 2 [.sl 0 g.vs.length (us g.vs),.sl 0 (sE g.es).length (eds (sE g.es))])
  have hn3:(s2.new (.box 35 2 [.sl 0 g.vs.length (us g.vs),.sl 0 (sE g.es).length (eds (sE g.es))])).next=s2.next+1:=rfl
  rw [← hn3]
  generalize s2.new (.box 35 2 [.sl 0 g.vs.length (us g.vs),.sl 0 (sE g.es).length (eds (sE g.es))])=s3 at *
  have hA3:=hA2.keep hk3
  have hK3:=hK2.trans hk3
  have hO3:=(hk3.H _ (by omega)).trans hO2
  have hG3:=(hk3.H _ (by omega)).trans hG2
  clear hA2 hK2 hO2 hG2 hk3
  unfold embedF at ho
  obtain ⟨oT,hoT,ho⟩:=Option.bind_eq_some_iff.1 ho
  have hKt:=hK1.trans hK3
  (repeat' (first | refine qB ?_ | (refine e_go ?_;simp [];(refine hJ _ _ ?_;clear hJ J;simp only [ak,reduceIte]))))
  refine awp_range 57 56 58 104 ((blksG g).length) (fun j fr st2=>fr 1=.pt st.next 0∧fr 2=.pt (st.next+1) 0∧fr 4=.mp s1.next∧fr 9=.mp s3.next∧fr 55=.sl 0 (blksG g).length (edsLs (blksG g))∧Keeps s3 st2∧∃ T A2,embF g ((blksG g).drop j) T=some oT∧MRow false [.u32] 26 1 A2 s3.next s3.next st2∧RowA T A2∧totT T≤100000) ?_ ?_ ?_
  ·exact ⟨by simp [f1],by simp [f2],by simp [f4],by simp,by simp,Keeps.new _ _,[],[],by simpa using hoT,⟨by simp [rmL],by simp,by simp,by simp,by simp⟩,rfl,by simp [totT]⟩
  ·clear f1 f2 f4 f25 hoT fr
   rintro j0 fr s4 hlt ⟨f1,f2,f4,f9,f55,hk4,T,A2,hE,hT,hR,htot⟩ fi fn JO hJO
   have hd:=edsLs_drop (blksG g) j0 hlt
   have hdr:(blksG g).drop j0=(blksG g).getD j0 []::(blksG g).drop (j0+1):=by
    rw [List.drop_eq_getElem_cons hlt,List.getD_eq_getElem?_getD,List.getElem?_eq_getElem hlt];rfl
   obtain ⟨hdre,hsub⟩:=blksG_dr hgE (l:=(blksG g).getD j0 []) (by rw [List.getD_eq_getElem?_getD,List.getElem?_eq_getElem hlt];exact List.getElem_mem _)
   rw [hdr] at hE
   unfold embF at hE
   obtain ⟨oD,hD,hE⟩:=Option.bind_eq_some_iff.1 hE
   generalize (blksG g).getD j0 []=l at *
   have hkn4:=hk4.next
   have hM24:=hT.mlt.2
   have hel4:(edsLs (blksG g)).length=(blksG g).length:=by simp [edsLs]
   (repeat' (first | refine qS ?_ | (refine w_e [] ?_;intro J hJ;simp only [];simp [f55,fi,fn,hlt,hd,hel4];(try (refine hJ _ _ ?_;clear hJ J;simp only [ak,reduceIte])))))
   refine qE (sDraw hdre hD s4 (by omega)) (by simp) ?_;rintro r s5 ⟨rfl,hk5⟩
   have hO5:=(hk5.H (st.next+1) (by omega)).trans ((hk4.H (st.next+1) (by omega)).trans hO3)
   have hk45:=hk4.trans hk5
   cases oD with
   | none=>
     simp only at hE
     obtain rfl:none=oT:=Option.some.inj hE
     simp only at ho
     obtain rfl:none=o:=Option.some.inj ho
     unfold drR
     (repeat' (first | refine qS ?_ | (refine qR ?_;simp only [ak,reduceIte];simp [f2,hO5]) | (refine qC ?_;simp [f2,hO5]) | ((first | (refine w_e [] ?_;intro J hJ;simp only []) | (refine e_go ?_));simp [f2,hO5];(refine hJ _ _ ?_;clear hJ J;simp only [ak,reduceIte]))))
     exact ⟨by simp [embR,z0,z0L],(hKt.trans hk45).set (by omega) _⟩
   | some F=>
     simp only at hE
     split at hE
     case isFalse=>cases hE
     rename_i hok
     obtain ⟨o1,o2,o3,o4,o5⟩:=hok
     unfold drR
     (repeat' (first | refine qS ?_ | (refine qK ?_;simp only [ak,reduceIte]) | (refine qC ?_;simp [f2,hO5]) | ((first | (refine w_e [] ?_;intro J hJ;simp only []) | (refine e_go ?_));simp [f2,hO5];(try (refine hJ _ _ ?_;clear hJ J;simp only [ak,reduceIte])))))
     refine qE (sAroundF F s5 o1 o2) (by simp) ?_;rintro r s6 ⟨M,loc,rfl,hM⟩
     have hMk:=hM.kp
     have hnd:=hM.nd
     have hkeyN:=keyN_ouL (aroundF F) loc
     (repeat' (first | refine qS ?_ | ((first | (refine w_e [] ?_;intro J hJ;simp only []) | (refine e_go ?_));simp [];(try (refine hJ _ _ ?_;clear hJ J;simp only [ak,reduceIte])))))
     refine qE (KeysM M _) (by simp) ?_;rintro r s7 ⟨rfl,e7⟩
     rw [e7];clear e7 s7
     have hM7:(s6.new (.box 28 1 [.mp M])).H M=.map false [.u32] (ouL (aroundF F) loc):=by rw [new_H,if_neg (by have:=hM.olt;omega)];exact hM.out
     (repeat' (refine e_go ?_;simp []))
     refine qE (SortedM M s6.next (ouL (aroundF F) loc) ((aroundF F).map (·.1)) _ (by simpa [ouL] using o3) (by simp) hM7 hkeyN hnd) (by simp) ?_;rintro r s8 ⟨rfl,hk8⟩
     have hk68:=(Keeps.new s6 _).trans hk8
     have hn5:=hk5.next
     have hn6:=hMk.next
     have hn8:=hk68.next
     have hout:s8.H M=.map false [.u32] (ouL (aroundF F) loc):=(hk68.H M hM.olt.2).trans hM.out
     have hinn:∀ a∈aroundF F,s8.H (loc a.1)=.map false [.u32] (inL a.2)∧s5.next≤loc a.1∧loc a.1 < s8.next:=fun a ha=>by
      obtain ⟨q1,q2,q3⟩:=hM.inn a ha
      exact ⟨(hk68.H _ q3).trans q1,q2.1,by omega⟩
     have hMo:s5.next≤M∧M < s8.next:=⟨hM.olt.1,by have:=hM.olt.2;omega⟩
     have hk48:=(hk5.trans hMk).trans hk68
     have hT8:=hT.keep hk48
     have hk38:=hk4.trans hk48
     have hTW:∀ a∈A2,a.2.1 < s5.next∨s8.next≤a.2.1:=fun a ha=>.inl (by have:=(hT.tok a ha).2.2.1;omega)
     have hne:=aroundF_ne F
     clear hM hM7 hk68 hMk hk48 hT hk8 hk5 hO5 hk45 hkeyN
     unfold nextT at hE o5
     generalize aroundF F=AF at *
     have hKm:=fun x=>srtF_mem x (AF.map (·.1))
     have hKl:(srtF (AF.map (·.1))).length≤1000:=Nat.le_trans (srtF_len _) (by rw [List.length_map];exact o3)
     generalize srtF (AF.map (·.1))=K at *
     (repeat' (first | refine qB ?_ | (refine e_go ?_;simp [];(refine hJ _ _ ?_;clear hJ J;simp only [ak,reduceIte]))))
     refine awp_range 75 74 76 103 (K.length) (fun j fr st2=>(fr 1=.pt st.next 0∧fr 2=.pt (st.next+1) 0∧fr 4=.mp s1.next∧fr 9=.mp s3.next∧fr 55=.sl 0 (blksG g).length (edsLs (blksG g))∧fr 56=i (blksG g).length∧fr 57=i j0∧fr 14=.mp M∧fr 73=.sl 0 K.length (us K))∧TI s1.next s3.next s5.next s3 s8 (turnA g AF (K.take j) T) st2) ?_ ?_ ?_
     ·exact ⟨⟨by simp [f1],by simp [f2],by simp [f4],by simp [f9],by simp [f55],by simp [fn],by simp [fi],by simp,by simp⟩,hk38,Nat.le_refl _,fun l _ _=>rfl,A2,hT8,hR,hTW⟩
     ·clear f1 f2 f4 f9 f55 fn fi fr hT8 hR hTW
      rintro k1 fr s9 hlt1 ⟨⟨f1,f2,f4,f9,f55,f56,f57,f14,f73⟩,hTI⟩ fi fn J1 hJ1
      have hd1:=qG K k1 hlt1
      have hsn1:turnA g AF (K.take (k1+1)) T=turnV g (K.getD k1 0) (roundF (getA (K.getD k1 0) AF)) (turnA g AF (K.take k1) T):=by
       have h1:K.take (k1+1)=K.take k1++[K[k1]]:=List.take_succ_eq_append_getElem hlt1
       unfold turnA
       rw [h1,List.foldl_append,getD_lt _ _ hlt1];rfl
      have htot1:totT (turnA g AF (K.take (k1+1)) T)≤100000:=by
       have h1:=turnA_tot g AF (K.drop (k1+1)) (turnA g AF (K.take (k1+1)) T)
       rw [← turnA_split] at h1
       omega
      have hvK:K.getD k1 0∈AF.map (·.1):=(hKm _).1 (by rw [getD_lt _ _ hlt1];exact List.getElem_mem _)
      have hvA:=getA_mem hvK
      have hgM:=ouL_get AF loc (K.getD k1 0)
      rw [if_pos hvK] at hgM
      rw [hsn1] at htot1 hJ1
      clear hsn1
      generalize turnA g AF (K.take k1) T=Tk at *
      generalize K.getD k1 0=v at *
      obtain ⟨hI1,hI2,hI3⟩:=hinn _ hvA
      have hPl:=o4 _ hvA
      have hP0:=hne _ hvA
      simp only at hI1 hI2 hI3 hPl hP0
      have hLl:=roundF_len (getA v AF)
      generalize getA v AF=P at *
      have hTI':=hTI
      obtain ⟨hk9,hn9,hW,A9,hT9,hR9,hTW9⟩:=hTI'
      have hM9:=(hW M hMo.1 hMo.2).trans hout
      have hI9:=(hW _ hI2 hI3).trans hI1
      clear hT9 hR9 hTW9 hW
      generalize loc v=lv at *
      (repeat' (first | refine qS ?_ | (refine w_e [] ?_;intro J hJ;simp only [];simp [f73,fi,fn,hlt1,hd1,f14,hM9,hgM];(try (refine hJ _ _ ?_;clear hJ J;simp only [ak,reduceIte])))))
      refine qE (sRound P lv s9 hP0 (by omega) hI9 (by omega)) (by simp) ?_;rintro r s10 ⟨rfl,e10⟩
      rw [e10];clear e10 s10
      have hLn:(roundF P).length≤1000:=by omega
      generalize roundF P=L at *
      (repeat' (first | refine qB ?_ | (refine e_go ?_;simp [];(refine hJ _ _ ?_;clear hJ J;simp only [ak,reduceIte]))))
      refine awp_range 84 83 85 102 (L.length) (fun j fr st2=>(fr 1=.pt st.next 0∧fr 2=.pt (st.next+1) 0∧fr 4=.mp s1.next∧fr 9=.mp s3.next∧fr 55=.sl 0 (blksG g).length (edsLs (blksG g))∧fr 56=i (blksG g).length∧fr 57=i j0∧fr 14=.mp M∧fr 73=.sl 0 K.length (us K))∧(fr 74=i K.length∧fr 75=i k1∧fr 16=u v∧fr 82=.sl 0 L.length (us L))∧TI s1.next s3.next s5.next s3 s8 (turnV g v (L.take j) Tk) st2) ?_ ?_ ?_
      ·exact ⟨⟨by simp [f1],by simp [f2],by simp [f4],by simp [f9],by simp [f55],by simp [f56],by simp [f57],by simp [f14],by simp [f73]⟩,⟨by simp [fn],by simp [fi],by simp,by simp⟩,hTI⟩
      ·clear f1 f2 f4 f9 f55 f56 f57 f14 f73 fi fn fr hTI hk9 hn9 hM9 hI9 s9
       rintro k2 fr s9 hlt2 ⟨⟨f1,f2,f4,f9,f55,f56,f57,f14,f73⟩,⟨f74,f75,f16,f82⟩,hk9,hn9,hW,A9,hT9,hR9,hTW9⟩ fi fn J2 hJ2
       have hd2:=qG L k2 hlt2
       have hsn2:turnV g v (L.take (k2+1)) Tk=addQ v (dartsF (bunF g v (L.getD k2 0)) v (L.getD k2 0)) (turnV g v (L.take k2) Tk):=by
        have h1:L.take (k2+1)=L.take k2++[L[k2]]:=List.take_succ_eq_append_getElem hlt2
        unfold turnV
        rw [h1,List.foldl_append,getD_lt _ _ hlt2];rfl
       have htot2:totT (turnV g v (L.take (k2+1)) Tk)≤100000:=by
        have h1:=turnV_tot g v (L.drop (k2+1)) (turnV g v (L.take (k2+1)) Tk)
        rw [← turnV_split] at h1
        omega
       rw [hsn2] at htot2 hJ2
       clear hsn2
       generalize turnV g v (L.take k2) Tk=Tq at *
       generalize L.getD k2 0=x at *
       have hbun:=hB.get hA3.nd (prP v x)
       have hMB:s9.H s1.next=.map true [.u32,.u32] (rmL A):=(hk9.H _ hA3.mlt.2).trans hA3.map
       obtain ⟨X,hX,tX,hXn⟩:∃ X,(mget (rmL A) [min v x,max v x]).getD .nil=X∧∃ t,norm X=.sl t (bunF g v x).length (eds (bunF g v x)):=by
        refine ⟨_,rfl,?_⟩
        rw [rmL_get]
        rcases hbun with ⟨h1,h2⟩ | ⟨t,h2⟩
        ·refine ⟨0,?_⟩
         simp only [prP,pk] at h2
         rw [h2]
         unfold bunF
         rw [h1];rfl
        ·refine ⟨t,?_⟩
         simp only [prP,pk] at h2
         rw [h2];rfl
       have hBl:(bunF g v x).length≤200:=Nat.le_trans (List.length_filter_le _ _) (Nat.le_trans he (by omega))
       have hBp:∀ e∈bunF g v x,1≤e.id∧e.id≤1048576:=fun e h=>hgE.pos e (List.mem_filter.1 h).1
       have hdarts:=fun st=>sDarts (bunF g v x) v x tX st (by omega) hBp
       generalize bunF g v x=B at *
       have hmg:=rmL_get [v] A9
       have hadd:=hR9.add (v:=v) (ds:=dartsF B v x)
       have htq:=getT_tot v (addQ v (dartsF B v x) Tq)
       have hgq:=hR9.get (v:=v)
       generalize hDD:dartsF B v x=D at *
       have hMT:=hT9.map
       have z1:¬ s1.next=s3.next:=by have:=hA3.mlt;omega
       have z2:¬ s3.next=s1.next:=fun e=>z1 e.symm
       have hn39:=hk9.next
       have hDt:=addQ_tot v D Tq
       have hDt2:=getT_tot v Tq
       have hD1:D.length * 4≤140737488355328:=by omega
       have hD2:D.length≤maxLen:=by unfold maxLen;omega
       have hm2:=hT9.mlt.2
       have z3:¬ s3.next=s9.next:=by omega
       have z4:¬ s9.next=s3.next:=by omega
       have z5:¬ s1.next=s9.next:=by have:=hA3.mlt;omega
       have h35:s3.next < s5.next:=by omega
       (repeat' (first | refine qS ?_ | (refine w_e [] ?_;intro J hJ;simp only [];simp [f82,fi,fn,hlt2,hd2];(refine hJ _ _ ?_;clear hJ J;simp only [ak,reduceIte]))))
       (refine w_s [] [s1.next,s3.next] [(0,true),(1,true),(2,true),(3,true),(4,true),(5,true),(6,true),(7,true),(10,true),(11,true),(8,true),(9,true),(12,true),(13,true),(14,false)] ?_;intro J hJ;simp [f4,f9,f16,hMT,hMB])
       refine qD (pair v x _) (by simp) ?_;rintro r s10 ⟨rfl,e10⟩
       rw [e10];clear e10 s10
       refine ⟨fun h=>by first | (cases h;done) | exact fun _ _=>rfl | simp,?_⟩
       (refine d_go ?_;simp [hMT,hMB,hX])
       refine qD (hdarts _) (by simp;exact hXn) ?_;rintro r s10 ⟨rfl,e10⟩
       rw [e10];clear e10 s10
       refine ⟨fun h=>by first | (cases h;done) | exact fun _ _=>rfl | simp,?_⟩
       rcases hgq with ⟨hq1,hq2⟩ | ⟨t,hq2⟩
       ·rw [hq2] at hmg
        simp only [Option.map_none] at hmg
        (refine d_go ?_;simp [hMT,hMB,hX,hmg,hD1,hD2,z3,z4,z5];(refine hJ _ _ ?_;clear hJ J;simp only [ak,reduceIte]))
        skip
        have hadd:=hadd s9.next
        rw [hq1] at hadd
        simp only [us,List.map_nil,List.nil_append,List.length_nil,Nat.zero_add] at hadd
        refine hJ2 _ _ (by simp [fi]) (by simp [fn]) ⟨⟨by simp [f1],by simp [f2],by simp [f4],by simp [f9],by simp [f55],by simp [f56],by simp [f57],by simp [f14],by simp [f73]⟩,⟨by simp [f74],by simp [f75],by simp [f16],by simp [f82]⟩,(hk9.trans (Keeps.new _ _)).set (Nat.le_refl _) _,by simp;omega,fun l q1 q2=>?_,_,hT9.put (k:=[v]) (t:=s9.next) (n:=D.length) (c:=us D) ⟨Nat.le_refl _,by simp⟩ (by simp) hn39 (by omega) (by simp [rmV]) (by simp [z4]) (fun l hl hlm _=>by simp [show ¬ l=s9.next by omega,hlm]),hadd,fun y hy=>?_⟩
        ·rw [set_H,if_neg (by omega),new_H,if_neg (by omega)];exact hW l q1 q2
        ·rcases putM_mem hT9.nd y hy with rfl | ⟨hy,_⟩
         ·exact .inr hn9
         ·exact hTW9 y hy
       ·rw [hq2] at hmg
        simp only [Option.map_some] at hmg
        unfold rmV at hmg
        simp only at hmg
        obtain ⟨g1,g2,g3,g4⟩:=hT9.tok _ (getM_mem hq2)
        simp only at g1 g2 g3 g4
        have y5:¬ s3.next=t:=fun e=>by rw [← e,hMT] at g4;cases g4
        have y6:¬ t=s3.next:=fun e=>y5 e.symm
        have y1:¬ t=s9.next:=by omega
        have y2:¬ s9.next=t:=by omega
        have z6:¬ s1.next=t:=by have:=hA3.mlt.2;omega
        have hD3:((getT v Tq).length+D.length) * 4≤140737488355328:=by omega
        have hD4:(getT v Tq).length+D.length≤maxLen:=by unfold maxLen;omega
        (refine d_go ?_;simp [hMT,hMB,hX,hmg,hD1,hD2,z3,z4,z5,z6,y1,y2,y5,y6,g1,g4,hD3,hD4];(refine hJ _ _ ?_;clear hJ J;simp only [ak,reduceIte]))
        skip
        refine hJ2 _ _ (by simp [fi]) (by simp [fn]) ⟨⟨by simp [f1],by simp [f2],by simp [f4],by simp [f9],by simp [f55],by simp [f56],by simp [f57],by simp [f14],by simp [f73]⟩,⟨by simp [f74],by simp [f75],by simp [f16],by simp [f82]⟩,((hk9.set g2 _).trans (Keeps.new _ _)).set (Nat.le_refl _) _,by simp;omega,fun l q1 q2=>?_,_,hT9.put (k:=[v]) (t:=s9.next) (n:=(getT v Tq).length+D.length) (c:=us (getT v Tq)++us D) ⟨Nat.le_refl _,by simp⟩ (by simp) hn39 (by omega) (by simp [rmV]) (by simp [z4]) (fun l hl hlm hx=>?_),hadd s9.next,fun y hy=>?_⟩
        ·have:=hTW9 _ (getM_mem hq2)
         simp only at this
         rw [set_H,if_neg (by omega),new_H,if_neg (by simp;omega),set_H,if_neg (by omega)];exact hW l q1 q2
        ·have:=hx _ hq2
         simp only at this
         simp [show ¬ l=s9.next by omega,hlm,this]
        ·rcases putM_mem hT9.nd y hy with rfl | ⟨hy,_⟩
         ·exact .inr hn9
         ·exact hTW9 y hy
      ·rintro fr s10 ⟨⟨f1,f2,f4,f9,f55,f56,f57,f14,f73⟩,⟨f74,f75,f16,f82⟩,hTI2⟩
       rw [List.take_length] at hTI2
       skip
       exact hJ1 _ _ (by simp [f75]) (by simp [f74]) ⟨⟨by simp [f1],by simp [f2],by simp [f4],by simp [f9],by simp [f55],by simp [f56],by simp [f57],by simp [f14],by simp [f73]⟩,hTI2⟩
     ·rintro fr s9 ⟨⟨f1,f2,f4,f9,f55,fn,fi,f14,f73⟩,hk9,hn9,_,A9,hT9,hR9,_⟩
      rw [List.take_length] at hR9
      skip
      exact hJO _ _ (by simp [fi]) (by simp [fn]) ⟨by simp [f1],by simp [f2],by simp [f4],by simp [f9],by simp [f55],hk9,_,A9,hE,hT9,hR9,o5⟩
  ·clear f1 f2 f4 f25 hoT fr
   rintro fr s4 ⟨f1,f2,f4,f9,f55,hk4,T,A2,hE,hT,hR,htot⟩
   rw [List.drop_length] at hE
   obtain rfl:some T=oT:=Option.some.inj hE
   simp only at ho
   by_cases hg1:∀ v∈g.vs,(getT v T).length≤1000
   case neg=>rw [if_neg hg1] at ho;cases ho
   rw [if_pos hg1] at ho
   obtain rfl:some _=o:=Option.some.inj ho
   have hO4:=(hk4.H (st.next+1) (by omega)).trans hO3
   have hG4:=(hk4.H st.next (by omega)).trans hG3
   (repeat' (first | refine qS ?_ | (refine w_e [] ?_;intro J hJ;simp only [];simp [f1,hG4,f9])))
   refine qE (rot_Of g s3.next (rmL A2) (fun v=>getT v T) s4 hv (by omega) hT.mlt.2 hT.map fun v hv'=>?_) (by simp [grL]) ?_
   ·rw [rmL_get]
    rcases hR.get (v:=v) with ⟨h1,h2⟩ | ⟨t,h2⟩
    ·refine ⟨_,0,rfl,?_,hg1 v hv'⟩
     rw [h2,h1];rfl
    ·refine ⟨_,t,rfl,?_,hg1 v hv'⟩
     rw [h2];rfl
   rintro r s5 ⟨rfl,hk5⟩
   have hO5:=(hk5.H (st.next+1) (by have:=hk4.next;omega)).trans hO4
   (repeat' (first | (refine qR ?_;simp only [ak,reduceIte];simp [f2,hO5]) | (refine e_go ?_;simp [f2,hO5];(refine hJ _ _ ?_;clear hJ J;simp only [ak,reduceIte]))))
   refine ⟨?_,((hKt.trans hk4).trans hk5).set (by omega) _⟩
   rw [← List.map_map]
   simp only [embR,z0,z0L,z0_us,z0_edsB,z0m,mpL,grL,List.length_map,List.cons_append,List.nil_append,rowsL]
def triP:Gr:=⟨[1,2,3],[⟨1,1,2⟩,⟨2,2,3⟩,⟨3,3,1⟩]⟩
def fiveP:Gr:=⟨[1,2,3,4,5],[⟨1,1,2⟩,⟨2,1,3⟩,⟨3,1,4⟩,⟨4,1,5⟩,⟨5,2,3⟩,⟨6,2,4⟩,⟨7,2,5⟩,⟨8,3,4⟩,⟨9,3,5⟩,⟨10,4,5⟩]⟩
theorem led_eval {g:Gr} (hg:GoodE g) {s:Bw} (h:allB g.es g.vs.length g.vs ⟨[],[],[],[]⟩=some s) {B:List (List Nat)} (hp:B.Perm s.out) (hr:B.Pairwise fun x y=>x.headD 0 < y.headD 0):ledB g.es=B:=by
 obtain ⟨s',h1,_,h2,_,h3⟩:=blocks_ok hg
 rw [h] at h1
 obtain rfl:=Option.some.inj h1
 exact (blocks_led h2 h3 hp hr).symm
theorem blks_eval {g:Gr} (hg:GoodE g) {out:List (List Nat)} (h:(allB (sE g.es) g.vs.length g.vs ⟨[],[],[],[]⟩).map (·.out)=some out) {B:List (List Nat)} (hp:B.Perm out) (hr:B.Pairwise fun x y=>x.headD 0 < y.headD 0):blksG g=B.map fun B=>B.map (eAt (sE g.es)):=by
 obtain ⟨s,h1,rfl⟩:=Option.map_eq_some_iff.1 h
 unfold blksG
 rw [led_eval (g:=⟨g.vs,sE g.es⟩) hg.simple h1 hp hr]
theorem triP_chk:chk triP=0:=by decide +kernel
theorem fiveP_chk:chk fiveP=0:=by decide +kernel
theorem triP_blks:blksG triP=[triP.es]:=by
 rw [blks_eval (chk_goodE triP_chk) (out:=[[0,1,2]]) (by decide +kernel) (List.Perm.refl _) (by decide)]
 decide +kernel
theorem fiveP_blks:blksG fiveP=[fiveP.es]:=by
 rw [blks_eval (chk_goodE fiveP_chk) (out:=[[0,1,2,3,4,5,6,7,8,9]]) (by decide +kernel) (List.Perm.refl _) (by decide)]
 decide +kernel
theorem fiveP_emb:(if chk fiveP=0 then embedF fiveP (blksG fiveP) else some none)=some none:=by
 rw [if_pos fiveP_chk,fiveP_blks]
 rfl
theorem triP_emb:(if chk triP=0 then embedF triP (blksG triP) else some none)=some (some ⟨triP,[[2,7],[3,4],[5,6]]⟩):=by
 rw [if_pos triP_chk,triP_blks]
 rfl
def preF (a b:Nat):List Ed:=fiveP.es.filter fun e=>decide (e.a < a)||(decide (e.a=a)&&decide (e.b < b))
theorem preF_step (a b:Nat) (h1:1≤a) (h2:a < b) (h3:b≤5):preF a (b+1)=preF a b++[⟨(preF a b).length+1,a,b⟩]:=by
 have h:∀ a:Fin 6,∀ b:Fin 6,1≤a.1→a.1 < b.1→preF a.1 (b.1+1)=preF a.1 b.1++[⟨(preF a.1 b.1).length+1,a.1,b.1⟩]:=by decide +kernel
 exact h ⟨a,by omega⟩ ⟨b,by omega⟩ h1 h2
theorem preF_next (a:Nat) (h1:1≤a) (h2:a≤5):preF a 6=preF (a+1) (a+2):=by
 have h:∀ a:Fin 6,1≤a.1→preF a.1 6=preF (a.1+1) (a.1+2):=by decide +kernel
 exact h ⟨a,by omega⟩ h1
theorem preF_le (a b:Nat):(preF a b).length≤10:=List.length_filter_le _ _
def FvS (st:St) (a b:Nat) (s:St):Prop:=s.H st.next=.box 35 2 [.nil,.nil]∧Keeps st s∧∃ tv t,s.H (st.next+2)=.box 35 2 [.sl tv 5 (us [1,2,3,4,5]),.sl t (preF a b).length (eds (preF a b))]∧t≠0∧st.next+2 < t∧t < s.next∧s.H t=.own 38 3 (preF a b).length
set_option maxHeartbeats 1000000 in
theorem sFive (st:St):ACalls Tryz.prog 30 [] st fun r st'=>r=.ag (grL fiveP)∧Keeps st st':=by
 refine acalls_z0 ?_
 refine qO tabOk Tryz.func30 rfl rfl Tryz.ntmps30 (rs:=[.cell 0 35]) rfl (by simp) ?_
 refine awp_posG fun hpos=>?_
 (repeat' (first | refine qS ?_ | refine qB ?_ | (refine w_e [] ?_;intro J hJ;simp only [];simp [];(refine hJ _ _ ?_;clear hJ J;simp only [ak,reduceIte]))))
 refine awp_cell (st.next+2) 38 3 (e:=35) (s:=2) [.sl (st.next+1) 5 (us [1,2,3,4,5])] [] (by simp) ?_
 refine qL (fun n fr s=>∃ a:Nat,1≤a∧a≤6∧n=6 - a∧fr 0=.pt st.next 0∧fr 1=.pt (st.next+2) 0∧fr 2=u a∧FvS st a (a+1) s) 5 ?_ ?_
 ·refine ⟨1,by omega,by omega,rfl,by simp,by simp,by simp,?_,?_,st.next+1,st.next+3,?_,by omega,by omega,by simp,?_⟩
  ·(repeat (first | rw [new_H,if_neg (α:=LObj) (by (try simp only [set_next,new_next]);omega)] | rw [set_H,if_neg (α:=LObj) (by omega)] | rw [new_H,if_pos (α:=LObj) (by (try simp only [set_next,new_next]))] | rw [set_H,if_pos (α:=LObj) (by omega)]))
  ·exact (((((Keeps.new _ _).trans (Keeps.new _ _)).trans (Keeps.new _ _)).set (by omega) _).trans (Keeps.new _ _)).set (by omega) _
  ·have:preF 1 (1+1)=[]:=by decide +kernel
   rw [this];(repeat (first | rw [new_H,if_neg (α:=LObj) (by (try simp only [set_next,new_next]);omega)] | rw [set_H,if_neg (α:=LObj) (by omega)] | rw [new_H,if_pos (α:=LObj) (by (try simp only [set_next,new_next]))] | rw [set_H,if_pos (α:=LObj) (by omega)]));simp [us,eds]
  ·have:preF 1 (1+1)=[]:=by decide +kernel
   rw [this];(repeat (first | rw [new_H,if_neg (α:=LObj) (by (try simp only [set_next,new_next]);omega)] | rw [set_H,if_neg (α:=LObj) (by omega)] | rw [new_H,if_pos (α:=LObj) (by (try simp only [set_next,new_next]))] | rw [set_H,if_pos (α:=LObj) (by omega)]));simp
 rintro n fr s ⟨a,a1,a2,rfl,f0,f1,f2,hS⟩ JJ hJJ
 by_cases ha:a≤5
 ·have hw:IntKind.u32.wrap ((a:Int)+1)=((a+1:Nat):Int):=by rw [wrap_u32' _ (by omega) (by omega)];omega
  have ha2:(a:Int)≤5:=by omega
  (repeat' (first | refine qS ?_ | refine qB ?_ | (refine qK ?_;simp only [ak,reduceIte]) | (refine qC ?_;simp [f2,ha2,hw]) | (refine w_e [] ?_;intro J hJ;simp only [];simp [f2,ha2,hw];(refine hJ _ _ ?_;clear hJ J;simp only [ak,reduceIte]))))
  refine qL (fun n fr s=>∃ b:Nat,a < b∧b≤6∧n=6 - b∧fr 0=.pt st.next 0∧fr 1=.pt (st.next+2) 0∧fr 2=u a∧fr 3=u b∧FvS st a b s) (6 - (a+1)) ?_ ?_
  ·exact ⟨a+1,by omega,by omega,rfl,by simp [f0],by simp [f1],by simp [f2],by simp,hS⟩
  clear f0 f1 f2 hS fr s
  rintro n fr s ⟨b,b1,b2,rfl,f0,f1,f2,f3,hS⟩ J2 hJ2
  by_cases hb:b≤5
  ·have hwb:IntKind.u32.wrap ((b:Int)+1)=((b+1:Nat):Int):=by rw [wrap_u32' _ (by omega) (by omega)];omega
   have hb2:(b:Int)≤5:=by omega
   obtain ⟨hR,hk,tv,t,hB,t0,t1,t2,tH⟩:=hS
   have hst:=preF_step a b a1 b1 hb
   have hpl:=preF_le a b
   generalize preF a b=E at *
   have w1:IntKind.i64.wrap ((E.length:Int)+1)=(E.length:Int)+1:=wrap_i64 _ (by omega) (by omega)
   have w2:IntKind.u32.wrap ((E.length:Int)+1)=(E.length:Int)+1:=wrap_u32' _ (by omega) (by omega)
   have hel:=eds_length E
   have hsm:=sum3P E
   have c1:¬ t=s.next:=by omega
   have c2:¬ s.next=t:=by omega
   have c3:¬ st.next+2=s.next:=by omega
   have c4:¬ st.next+2=t:=by omega
   have c5:¬ st.next+2=s.next+1:=by omega
   have c6:¬ s.next=st.next+2:=by omega
   (repeat' (first | refine qS ?_ | refine qB ?_ | (refine qK ?_;simp only [ak,reduceIte]) | (refine qC ?_;simp [f0,f1,f2,f3,hb2,hwb,hB,tH,t0,w1,w2,hel,hsm,c1,c2,c3,c4,c5,c6]) | (refine w_e [] ?_;intro J hJ;simp only [];simp [f0,f1,f2,f3,hb2,hwb,hB,tH,t0,w1,w2,hel,hsm,c1,c2,c3,c4,c5,c6];(repeat refine ca ?_);(refine hJ _ _ ?_;clear hJ J;simp only [ak,reduceIte]))))
   refine hJ2 (6 - (b+1)) _ _ (by omega) ⟨b+1,by omega,by omega,rfl,by simp [f0],by simp [f1],by simp [f2],by simp,?_,?_,tv,s.next+1,?_,by omega,by omega,by simp,?_⟩
   ·(repeat (first | rw [new_H,if_neg (α:=LObj) (by (try simp only [set_next,new_next]);omega)] | rw [set_H,if_neg (α:=LObj) (by omega)] | rw [new_H,if_pos (α:=LObj) (by (try simp only [set_next,new_next]))] | rw [set_H,if_pos (α:=LObj) (by omega)]));exact hR
   ·exact (((hk.trans (Keeps.new _ _)).set (by omega) _).trans (Keeps.new _ _)).set (by omega) _
   ·rw [hst];(repeat (first | rw [new_H,if_neg (α:=LObj) (by (try simp only [set_next,new_next]);omega)] | rw [set_H,if_neg (α:=LObj) (by omega)] | rw [new_H,if_pos (α:=LObj) (by (try simp only [set_next,new_next]))] | rw [set_H,if_pos (α:=LObj) (by omega)]));simp [eds,edL]
   ·rw [hst];(repeat (first | rw [new_H,if_neg (α:=LObj) (by (try simp only [set_next,new_next]);omega)] | rw [set_H,if_neg (α:=LObj) (by omega)] | rw [new_H,if_pos (α:=LObj) (by (try simp only [set_next,new_next]))] | rw [set_H,if_pos (α:=LObj) (by omega)]));simp
  ·obtain rfl:b=6:=by omega
   have hb2:¬ ((6:Nat):Int)≤5:=by omega
   unfold FvS at hS hJJ
   rw [preF_next a a1 ha] at hS
   (repeat' (first | refine qS ?_ | (refine qX ?_;simp only [ak,reduceIte]) | (refine qC ?_;simp [f3,f2,hw]) | (refine w_e [] ?_;intro J hJ;simp only [];simp [f3,f2,hw];(refine hJ _ _ ?_;clear hJ J;simp only [ak,reduceIte]))))
   exact hJJ _ _ _ (by omega) ⟨a+1,by omega,by omega,rfl,by simp [f0],by simp [f1],by simp,hS⟩
 ·obtain rfl:a=6:=by omega
  clear hJJ
  obtain ⟨hR,hk,tv,t,hB,t0,t1,t2,tH⟩:=hS
  have hp:preF 6 (6+1)=fiveP.es:=by decide +kernel
  rw [hp] at hB tH
  (repeat' (first | refine qS ?_ | (refine qX ?_;simp only [ak,reduceIte]) | (refine qR ?_;simp only [ak,reduceIte];simp [f0,f1,f2,hB,hR]) | (refine qC ?_;simp [f0,f1,f2,hB,hR]) | (refine w_e [] ?_;intro J hJ;simp only [];simp [f0,f1,f2,hB,hR];(refine hJ _ _ ?_;clear hJ J;simp only [ak,reduceIte]))))
  exact ⟨by simp only [z0,z0L,z0_edsB];rfl,hk.set (by omega) _⟩
end Go.Proofs.YtiiejclelbilkaaGreatDoor.Aw
namespace Go.Proofs.YtiiejclelbilkaaGreatDoor.Aw
open Go Go.RowKit
set_option linter.unusedSimpArgs false
set_option linter.unusedVariables false
end Go.Proofs.YtiiejclelbilkaaGreatDoor.Aw
namespace Go.Proofs.YtiiejclelbilkaaGreatDoor.Aw
open Go Go.RowKit Go.Proofs.YtiiejclelbilkaaGreatDoor.Pl
set_option linter.unusedSimpArgs false
set_option linter.unusedVariables false
mutual
def pureV:LV→Bool
 | .sl t _ cs=>t==0&&pureL cs
 | .nil=>true
 | .ag cs=>pureL cs
 | .tu cs=>pureL cs
 | .atom _=>true
 | _=>false
def pureL:List LV→Bool
 | []=>true
 | c::cs=>pureV c&&pureL cs
end
abbrev G0:G:=⟨1,fun _=>none,fun _=>0,fun _=>0,fun _=>false⟩
theorem g0_ok (b o:Nat):G0.ok b o:=by simp [G.ok]
mutual
theorem rep_pure {w:World} {g:G}:∀ (lv:LV) (v:Value),pureV lv=true→Rep w g lv v→Rep w G0 lv v
 | .sl t n cs,v,hp,h=>by
   simp only [pureV,Bool.and_eq_true,beq_iff_eq] at hp
   obtain ⟨rfl,hp⟩:=hp
   simp only [Rep] at h ⊢
   obtain ⟨A,cap,h1,h2,h3,_,h5⟩:=h
   refine ⟨A,cap,h1,h2,h3,fun h=>absurd rfl h,fun hne=>?_⟩
   obtain ⟨b,o,h6,h7⟩:=h5 hne
   exact ⟨b,o,h6,repRow_pure b cs o hp h7⟩
 | .nil,v,_,h=>by simpa only [Rep] using h
 | .ag cs,v,hp,h=>by
   simp only [pureV] at hp
   simp only [Rep] at h ⊢
   obtain ⟨vs,h1,h2⟩:=h
   exact ⟨vs,h1,repL_pure cs vs hp h2⟩
 | .tu cs,v,hp,h=>by
   simp only [pureV] at hp
   simp only [Rep] at h ⊢
   obtain ⟨vs,h1,h2⟩:=h
   exact ⟨vs,h1,repL_pure cs vs hp h2⟩
 | .atom _,_,_,h=>by simpa only [Rep] using h
 | .emp,_,hp,_=>by simp [pureV] at hp
 | .dead,_,hp,_=>by simp [pureV] at hp
 | .ms _ _ _,_,hp,_=>by simp [pureV] at hp
 | .pt _ _,_,hp,_=>by simp [pureV] at hp
 | .ep _,_,hp,_=>by simp [pureV] at hp
 | .mp _,_,hp,_=>by simp [pureV] at hp
 | .fn _ _,_,hp,_=>by simp [pureV] at hp
 | .qu _ _ _ _,_,hp,_=>by simp [pureV] at hp
 | .pe _ _,_,hp,_=>by simp [pureV] at hp
 | .kap _ _ _,_,hp,_=>by simp [pureV] at hp
theorem repL_pure {w:World} {g:G}:∀ (cs:List LV) (vs:List Value),pureL cs=true→RepL w g cs vs→RepL w G0 cs vs
 | [],vs,_,h=>h
 | c::cs,vs,hp,h=>by
   simp only [pureL,Bool.and_eq_true] at hp
   simp only [RepL] at h ⊢
   obtain ⟨v,vs',rfl,h1,h2⟩:=h
   exact ⟨v,vs',rfl,rep_pure c v hp.1 h1,repL_pure cs vs' hp.2 h2⟩
theorem repRow_pure {w:World} {g:G} (b:Nat):∀ (cs:List LV) (o:Nat),pureL cs=true→RepRow w g b cs o→RepRow w G0 b cs o
 | [],_,_,h=>h
 | c::cs,o,hp,h=>by
   simp only [pureL,Bool.and_eq_true] at hp
   simp only [RepRow] at h ⊢
   obtain ⟨⟨v,h1,h2,h3⟩,h4⟩:=h
   exact ⟨⟨v,h1,rep_pure c v hp.1 h2,g0_ok b o⟩,repRow_pure b cs (o+1) hp.2 h4⟩
end
theorem acalls_frameP {P:Program} {f:FuncId} {args:List LV} {r0:LV} {st:St} (ha:pureL args=true) (hr:∀ (w:World) (g g':G) v,Rep w g r0 v→Rep w g' r0 v)
 (h:ACalls P f args ⟨1,fun _=>.dead⟩ fun r _=>r=r0):ACalls P f args st fun r st'=>r=r0∧st'=st:=by
 refine ⟨h.1,fun w g vs hi hrp=>?_⟩
 have hi0:Inv w G0 ⟨1,fun _=>.dead⟩:=by
  refine ⟨rfl,by decide,fun _ _=>rfl,fun l hl=>hl.elim,fun l l' hl=>hl.elim,fun l e s n hl=>(by cases hl),fun l e s cs hl=>(by cases hl),fun l ag ks es hl=>(by cases hl),fun l e n hl=>(by cases hl),aside_bare (hi.aside.glob.phi fun _ _ _ _ _=>rfl) fun _=>rfl⟩
 refine (h.2 w _ vs hi0 (repL_pure _ _ ha hrp)).mono ?_
 rintro e w' ⟨v,r,st',g',rfl,rfl,hrep,_,he⟩
 have hB:Below w.heap.size w w':=⟨he.os,he.tape,he.output,he.size,fun k hk=>(he.still k hk rfl).2⟩
 exact ⟨v,_,st,g,rfl,⟨rfl,rfl⟩,hr _ _ _ _ hrep,inv_below hi hB,below_ext g hB⟩
def isIP (k:Int) (p:LV×St):Bool:=match p.1 with
 | .atom (.int .i64 n)=>n==k
 | _=>false
def xIP (k:Int) (r:Option (List (LV×St))):Bool:=match r with
 | some l=>l.all (isIP k)
 | none=>false
theorem acalls_closedIP {P:Program} {T:Tab} {fns:FuncId→Option Func} {pr:XCall} (hT:TabOk P T) (hf:FnsOk P fns) (hp:CallOk P pr) (hm:P.follows .mixedOrders=true) (n:Nat) {f:FuncId} {args:List LV} {k:Int} {st:St} (ha:pureL args=true)
 (h:xIP k (xcall T fns pr n f args ⟨1,fun _=>.dead⟩)=true):ACalls P f args st fun r st'=>r=i k∧st'=st:=by
 cases hx:xcall T fns pr n f args ⟨1,fun _=>.dead⟩ with
 | none=>rw [hx] at h;simp [xIP] at h
 | some l=>
   rw [hx] at h
   simp only [xIP] at h
   rw [List.all_eq_true] at h
   have:=xcall_sound hT hf hp (fun N c fr st L hx=>xrun_sound hT hf hp hm n N c fr st L hx) f args _ l hx
   refine acalls_frameP ha (fun w g g' v h=>by simp only [Rep] at h ⊢;exact h) (this.mono ?_)
   intro r1 st1 hmm
   have hb:=h _ hmm
   unfold isIP at hb
   split at hb
   ·rename_i m c
    simp only at c
    rw [c,eq_of_beq hb]
   ·cases hb
def triM:Mp:=⟨triP,[[2,7],[3,4],[5,6]]⟩
theorem triM_right (st:St):ACalls Tryz.prog 31 [.ag (mpL triM)] st fun r st'=>r=i 0∧st'=st:=
 acalls_closedIP tabOk fnsOk prim_ok mixed 1000000 (by kernel_rfl) (by kernel_rfl)
theorem Awake10P (st:St):ACalls Tryz.prog 32 [] st fun r st'=>r=bb true∧st'=st:=by
 refine qO tabOk Tryz.func32 rfl rfl Tryz.ntmps32 (rs:=[.tmp 0]) rfl (by simp) ?_
 (repeat' (first | refine qS ?_ | (refine w_e [] ?_;intro J hJ;simp only [];simp [];(try (refine hJ _ _ ?_;clear hJ J;simp only [ak,reduceIte])))))
 refine qE (awake10 _) (by simp []) ?_;rintro r st' ⟨rfl,rfl⟩
 (repeat' (first | (refine qR ?_;simp only [ak,reduceIte];simp []) | (refine e_go ?_;simp [];(refine hJ _ _ ?_;clear hJ J;simp only [ak,reduceIte]))))
theorem Awake13P (st:St):ACalls Tryz.prog 33 [] st fun r st'=>r=bb true∧st'=st:=by
 refine qO tabOk Tryz.func33 rfl rfl Tryz.ntmps33 (rs:=[.tmp 0]) rfl (by simp) ?_
 (repeat' (first | refine qS ?_ | (refine w_e [] ?_;intro J hJ;simp only [];simp [];(try (refine hJ _ _ ?_;clear hJ J;simp only [ak,reduceIte])))))
 refine qE (awake13 _) (by simp []) ?_;rintro r st' ⟨rfl,rfl⟩
 (repeat' (first | (refine qR ?_;simp only [ak,reduceIte];simp []) | (refine e_go ?_;simp [];(refine hJ _ _ ?_;clear hJ J;simp only [ak,reduceIte]))))
set_option maxHeartbeats 1000000 in
theorem awake14 (st:St):ACalls Tryz.prog 8 [] st fun r st'=>r=bb true∧st'=st:=by
 refine qT (Q:=fun r=>r=bb true) ?_ fun r h=>by subst h;trivial
 have hE1:=sEmbed triP (by decide) (by decide) triP_emb
 have hE2:=sEmbed fiveP (by decide) (by decide) fiveP_emb
 have hR:=fun s=>triM_right s
 refine qO tabOk Tryz.func8 rfl rfl Tryz.ntmps8 (rs:=[.tmp 0]) rfl (by simp) ?_
 (repeat' (first | refine qS ?_ | (refine w_e [] ?_;intro J hJ;simp only [];simp [];(try (refine hJ _ _ ?_;clear hJ J;simp only [ak,reduceIte])))))
 refine callK_of0 (hE1 _) (by simp [z0,z0L,grL,triP,us,eds,edL]) ?_;rintro r s1 ⟨rfl,hk1⟩
 unfold embR
 have hn1:=hk1.next
 simp only [new_next] at hn1
 (repeat' (first | refine qS ?_ | ((first | (refine w_e [] ?_;intro J hJ;simp only []) | (refine e_go ?_));simp [];(try (refine hJ _ _ ?_;clear hJ J;simp only [ak,reduceIte])))))
 refine qE (sFive _) (by simp) ?_;rintro r s2 ⟨rfl,hk2⟩
 have hn2:=hk2.next
 simp only [new_next] at hn2
 have hB2:s2.H s1.next=.box 46 3 (mpL triM):=by rw [hk2.H _ (by simp)];simp [triM]
 have hK2:Keeps st s2:=((((Keeps.new _ _).trans (Keeps.new _ _)).trans hk1).trans (Keeps.new _ _)).trans hk2
 (repeat' (refine e_go ?_;simp []))
 refine qE (hE2 _) (by simp) ?_;rintro r s3 ⟨rfl,hk3⟩
 unfold embR
 have hn3:=hk3.next
 have hB3:=(hk3.H s1.next (by omega)).trans hB2
 have c1:¬ s1.next=s3.next:=by omega
 have h3:triM.g.es.length=3:=rfl
 (repeat' (first | refine qS ?_ | ((first | (refine w_e [] ?_;intro J hJ;simp only []) | (refine e_go ?_));simp [hB3,c1];(try (refine hJ _ _ ?_;clear hJ J;simp only [ak,reduceIte])))))
 refine qE (hR _) (by simp [mpL,grL]) ?_;rintro r s4 ⟨rfl,e4⟩
 rw [e4];clear e4 s4
 (repeat' (refine e_go ?_;simp [hB3,c1,h3]))
 refine qE (Awake10P _) (by simp) ?_;rintro r s4 ⟨rfl,e4⟩
 rw [e4];clear e4 s4
 (repeat' (refine e_go ?_;simp [hB3,c1,h3]))
 refine qE (Awake13P _) (by simp) ?_;rintro r s4 ⟨rfl,e4⟩
 rw [e4];clear e4 s4
 (repeat' (first | (refine qR ?_;simp only [ak,reduceIte];simp [hB3,c1,h3]) | (refine e_go ?_;simp [hB3,c1,h3];(refine hJ _ _ ?_;clear hJ J;simp only [ak,reduceIte]))))
 exact (hK2.trans hk3).trans (Keeps.new _ _)
structure GrF (g:Gr):Prop where
 rise:g.vs.Pairwise (· < ·)
 vpos:∀ v∈g.vs,1≤v∧v≤1048576
 ids:g.es.Pairwise fun x y=>x.id < y.id
 pos:∀ x∈g.es,1≤x.id∧x.id≤1048576
 ne:∀ x∈g.es,x.a≠x.b
 ends:∀ x∈g.es,x.a∈g.vs∧x.b∈g.vs
 l1:g.vs.length≤64
 l2:g.es.length≤160
theorem nz_all {f:Nat→Int} {n:Nat} (h:firstNZ f n=0):∀ j,j < n→f j=0:=by
 induction n with
 | zero=>intro j hj;omega
 | succ n ih=>
   intro j hj
   simp only [firstNZ] at h
   by_cases h0:firstNZ f n=0
   ·rw [if_neg (by simp [h0])] at h
    rcases Nat.lt_or_ge j n with h1 | h1
    ·exact ih h0 j h1
    ·obtain rfl:j=n:=by omega
     exact h
   ·rw [if_pos h0] at h;exact absurd h h0
theorem numb_zero_iff (n a:Int) (b:Bool):numb n a b=0↔(1≤n∧n≤1048576)∧(b=false→a < n):=by
 unfold numb
 by_cases h1:n < 1∨1048576 < n
 ·rw [if_pos h1]
  constructor
  ·intro h;cases h
  ·rintro ⟨h,_⟩;omega
 ·rw [if_neg h1]
  by_cases h2:b=false∧n≤a
  ·rw [if_pos h2]
   constructor
   ·intro h;cases h
   ·rintro ⟨_,h⟩;have:=h h2.1;omega
  ·rw [if_neg h2]
   refine ⟨fun _=>⟨by omega,fun hb=>?_⟩,fun _=>rfl⟩
   rcases Int.lt_or_le a n with h3 | h3
   ·exact h3
   ·exact absurd ⟨hb,h3⟩ h2
theorem rise_step {l:List Int} (h:∀ j,j < l.length→0 < j→l.getD (j - 1) 0 < l.getD j 0):l.Pairwise (· < ·):=by
 have g:∀ j (hj:j < l.length),l.getD j 0=l[j]:=fun j hj=>by rw [List.getD_eq_getElem?_getD,List.getElem?_eq_getElem hj];rfl
 rw [List.pairwise_iff_getElem]
 intro a b ha hb hab
 induction b with
 | zero=>omega
 | succ b ih=>
   have h1:=h (b+1) hb (by omega)
   rw [Nat.add_sub_cancel,g _ hb,g _ (by omega)] at h1
   rcases Nat.lt_or_ge a b with h2 | h2
   ·have:=ih (by omega) h2;omega
   ·obtain rfl:a=b:=by omega
    exact h1
theorem gE (l:List Ed) (j:Nat) (hj:j < l.length):l.getD j ed0=l[j]:=by
 rw [List.getD_eq_getElem?_getD,List.getElem?_eq_getElem hj];rfl
theorem badE_zero (g:Gr) (j:Nat) (x:Ed) (hx:g.es.getD j ed0=x):badE g j=0↔((1≤x.id∧x.id≤1048576)∧(0 < j→(g.es.getD (j - 1) ed0).id < x.id))∧x.a≠x.b∧x.a∈g.vs∧x.b∈g.vs:=by
 unfold badE
 simp only [hx]
 have h0:=numb_zero_iff x.id (g.es.getD (j - 1) ed0).id (decide (j=0))
 have hj:(decide (j=0)=false)↔0 < j:=by simp;omega
 rw [hj] at h0
 by_cases h1:numb x.id (g.es.getD (j - 1) ed0).id (decide (j=0))=0
 ·rw [if_neg (fun h=>h h1)]
  have h1':=h0.1 h1
  by_cases h2:x.a=x.b
  ·rw [if_pos h2]
   constructor
   ·intro h;cases h
   ·rintro ⟨_,h,_⟩;exact absurd h2 h
  ·rw [if_neg h2]
   by_cases h3:x.a∉g.vs∨x.b∉g.vs
   ·rw [if_pos h3]
    constructor
    ·intro h;cases h
    ·rintro ⟨_,_,h,h'⟩
     rcases h3 with h3 | h3
     ·exact absurd h h3
     ·exact absurd h' h3
   ·rw [if_neg h3]
    exact ⟨fun _=>⟨h1',h2,Classical.byContradiction fun h=>h3 (.inl h),Classical.byContradiction fun h=>h3 (.inr h)⟩,fun _=>rfl⟩
 ·rw [if_pos h1]
  constructor
  ·intro h;exact absurd h h1
  ·rintro ⟨h,_⟩;exact absurd (h0.2 h) h1
theorem chk_full {g:Gr} (h:chk g=0):GrF g:=by
 unfold chk at h
 by_cases h1:64 < g.vs.length∨160 < g.es.length
 ·rw [if_pos h1] at h;cases h
 rw [if_neg h1] at h
 by_cases h2:firstNZ (badV g) g.vs.length=0
 rotate_left
 ·rw [if_pos h2] at h;exact absurd h h2
 rw [if_neg (by simp [h2])] at h
 have gI:∀ j (hj:j < g.vs.length),g.vs.getD j 0=g.vs[j]:=fun j hj=>by rw [List.getD_eq_getElem?_getD,List.getElem?_eq_getElem hj];rfl
 have hV:=fun j hj=>(numb_zero_iff _ _ _).1 (nz_all h2 j hj)
 have hE:=fun j hj=>(badE_zero g j _ rfl).1 (nz_all h j hj)
 have hin:∀ x∈g.es,∃ j,j < g.es.length∧g.es.getD j ed0=x:=fun x hx=>by
  obtain ⟨j,hj,rfl⟩:=List.getElem_of_mem hx
  exact ⟨j,hj,gE _ _ hj⟩
 refine ⟨rise_step fun j hj h0=>(hV j hj).2 (by simp;omega),fun v hv=>?_,?_,fun x hx=>?_,fun x hx=>?_,fun x hx=>?_,by omega,by omega⟩
 ·obtain ⟨j,hj,rfl⟩:=List.getElem_of_mem hv
  rw [← gI j hj];exact (hV j hj).1
 ·have:=rise_step (l:=g.es.map (·.id)) fun j hj h0=>by
   rw [List.length_map] at hj
   have:=(hE j hj).1.2 h0
   rw [gE _ _ hj,gE _ _ (by omega)] at this
   rw [List.getD_eq_getElem?_getD,List.getElem?_eq_getElem (by simp;omega),List.getD_eq_getElem?_getD,List.getElem?_eq_getElem (by simp;omega)]
   simpa using this
  rwa [List.pairwise_map] at this
 ·obtain ⟨j,hj,rfl⟩:=hin x hx;exact (hE j hj).1.1
 ·obtain ⟨j,hj,rfl⟩:=hin x hx;exact (hE j hj).2.1
 ·obtain ⟨j,hj,rfl⟩:=hin x hx;exact (hE j hj).2.2
theorem chk_mk {g:Gr} (h:GrF g):chk g=0:=by
 have hl1:=h.l1
 have hl2:=h.l2
 have gI:∀ j (hj:j < g.vs.length),g.vs.getD j 0=g.vs[j]:=fun j hj=>by rw [List.getD_eq_getElem?_getD,List.getElem?_eq_getElem hj];rfl
 unfold chk
 rw [if_neg (by omega)]
 have h2:firstNZ (badV g) g.vs.length=0:=firstNZ_zero fun j hj=>(numb_zero_iff _ _ _).2 ⟨by rw [gI j hj];exact h.vpos _ (List.getElem_mem _),fun h0=>by
  have h0:0 < j:=by simp at h0;omega
  rw [gI j hj,gI _ (by omega)]
  exact List.pairwise_iff_getElem.1 h.rise _ _ (by omega) hj (by omega)⟩
 rw [h2]
 simp only [ne_eq,not_true_eq_false,if_false]
 refine firstNZ_zero fun j hj=>(badE_zero g j _ (gE _ _ hj)).2 ?_
 have hm:g.es[j]∈g.es:=List.getElem_mem _
 refine ⟨⟨h.pos _ hm,fun h0=>?_⟩,h.ne _ hm,(h.ends _ hm).1,(h.ends _ hm).2⟩
 rw [gE _ _ (by omega)]
 exact List.pairwise_iff_getElem.1 h.ids _ _ (by omega) hj (by omega)
theorem any_takeE (l:List Ed) (p:Ed→Bool) (k:Nat) (hk:k < l.length):(l.take (k+1)).any p=((l.take k).any p||p (l.getD k ed0)):=by
 rw [List.take_succ_eq_append_getElem hk,List.any_append,List.getD_eq_getElem?_getD,List.getElem?_eq_getElem hk]
 simp
theorem filter_takeI (l:List Int) (p:Int→Bool) (k:Nat) (hk:k < l.length):(l.take (k+1)).filter p=(l.take k).filter p++if p (l.getD k 0)=true then [l.getD k 0] else []:=by
 rw [List.take_succ_eq_append_getElem hk,List.filter_append,List.getD_eq_getElem?_getD,List.getElem?_eq_getElem hk]
 by_cases h:p l[k]=true<;>simp [h]
theorem box_neT {st:St} {a b:Nat} {x y:LObj} (ha:st.H a=x) (hb:st.H b=y) (h:x≠y):¬ a=b:=fun e=>h (by rw [← ha,e,hb])
def OwnT (t:Nat) (lo:St) (l:List Int) (st:St):Prop:=t≠0∧lo.next≤t∧t < st.next∧st.H t=.own 26 1 l.length
theorem sum3 (l:List Ed):(List.map (fun _:Ed=>3) l).sum=l.length * 3:=by
 induction l with
 | nil=>rfl
 | cons x l ih=>simp only [List.map_cons,List.sum_cons,List.length_cons,ih];omega
def cellV (l:List Int):LV:=.sl 0 l.length (us l)
def cellsV (R:List (List Int)):List LV:=R.map cellV
@[simp] theorem cellsV_len (R:List (List Int)):(cellsV R).length=R.length:=by simp [cellsV]
def touch (v:Int) (x:Ed):Bool:=x.a==v||x.b==v
def CU (p:Int→Bool) (B:Int) (mes:List (List Int×LV)):Prop:=∀ v,∃ c:Int,(mget mes [v]).getD (i 0)=i c∧0≤c∧c≤B∧(0 < c↔p v=true)
theorem CU.one {p:Int→Bool} {B:Int} {mes:List (List Int×LV)} (h:CU p B mes) (a:Int) {c:Int} (hc:(mget mes [a]).getD (i 0)=i c):CU (fun v=>p v||v==a) (B+1) (mset mes [a] (i (c+1))):=by
 intro v
 obtain ⟨c0,h1,h2,h3,h4⟩:=h v
 rw [mget_mset]
 by_cases hv:v=a
 ·subst hv
  rw [hc] at h1
  have hcc:c=c0:=by injection h1 with h1;injection h1
  subst hcc
  exact ⟨c+1,by simp,by omega,by omega,by simp;omega⟩
 ·rw [if_neg (by simpa using hv)]
  refine ⟨c0,h1,h2,by omega,?_⟩
  simp [hv,h4]
set_option maxHeartbeats 1000000 in
theorem Bare (g:Gr) (st:St) (hv:g.vs.length≤1000) (he:g.es.length≤1000) (hp:0 < st.next):
 ACalls Tryz.prog 41 [.ag (grL g)] st fun r st'=>r=.ag (grL ⟨g.vs.filter fun v=>g.es.any (touch v),g.es⟩)∧Keeps st st':=by
 refine acalls_z0 ?_
 have hel:=eds_length g.es
 refine qO tabOk Tryz.func41 rfl rfl Tryz.ntmps41 (rs:=[.cell 2 35]) rfl (by simp) ?_
 (repeat' (first | refine qS ?_ | refine qB ?_ | (refine w_e [] ?_;intro J hJ;simp only [];simp [];(refine hJ _ _ ?_;clear hJ J;simp only [ak,reduceIte]))))
 refine awp_range 13 12 14 27 (g.es.length) (fun j fr st2=>fr 1=.pt st.next 0∧fr 2=.pt (st.next+1) 0∧fr 3=.mp (st.next+2)∧fr 11=.sl 0 g.es.length (eds g.es)∧st2.H st.next=.box 35 2 (grL g)∧st2.H (st.next+1)=.box 35 2 [.nil,.nil]∧st.next+2 < st2.next∧Keeps st st2∧∃ mes,st2.H (st.next+2)=.map false [.u32] mes∧CU (fun v=>(g.es.take j).any (touch v)) (2 * j) mes) ?_ ?_ ?_
 ·have e1:¬ st.next=st.next+1+1:=by omega
  refine ⟨by simp,by simp,by simp,by simp,by simp [e1],by simp,by simp,((Keeps.new _ _).trans (Keeps.new _ _)).trans (Keeps.new _ _),[],by simp,fun v=>⟨0,by simp [mget],by omega,by omega,by simp⟩⟩
 ·rintro j fr s hlt ⟨f1,f2,f3,f11,hG,h2,hsn,hkp,mes,hM,hC⟩ fi fn J hJ
  have hd:=eds_drop g.es j hlt
  have hk3:j * 3 < g.es.length * 3:=by omega
  have han:=fun v=>any_takeE g.es (touch v) j hlt
  generalize g.es.getD j ed0=x at *
  obtain ⟨d,a,b⟩:=x
  obtain ⟨c,c1,c2,c3,-⟩:=hC a
  have hC2:=hC.one a c1
  obtain ⟨c',c1',c2',c3',-⟩:=hC2 b
  have hC3:=hC2.one b c1'
  have w1:IntKind.i64.wrap (c+1)=c+1:=wrap_i64 _ (by omega) (by omega)
  have w2:IntKind.i64.wrap (c'+1)=c'+1:=wrap_i64 _ (by omega) (by omega)
  have e1:¬ st.next+2=s.next:=by omega
  have e2:¬ s.next=st.next+2:=by omega
  (repeat' (first | refine qS ?_ | (refine w_e [] ?_;intro J hJ;simp only [];simp [f1,f3,f11,fi,fn,hd,hel,hk3,hlt,hM,c1,c1',w1,w2,e1,e2];(refine hJ _ _ ?_;clear hJ J;simp only [ak,reduceIte]))))
  refine hJ _ _ (by simp [fi]) (by simp [fn]) ⟨by simp [f1],by simp [f2],by simp [f3],by simp [f11],?_,?_,by simp;omega,?_,mset (mset mes [a] (i (c+1))) [b] (i (c'+1)),by simp,fun v=>?_⟩
  ·(repeat (first | rw [new_H,if_neg (α:=LObj) (by (try simp only [set_next,new_next]);omega)] | rw [set_H,if_neg (α:=LObj) (by omega)] | rw [new_H,if_pos (α:=LObj) (by (try simp only [set_next,new_next]))] | rw [set_H,if_pos (α:=LObj) (by omega)]));exact hG
  ·(repeat (first | rw [new_H,if_neg (α:=LObj) (by (try simp only [set_next,new_next]);omega)] | rw [set_H,if_neg (α:=LObj) (by omega)] | rw [new_H,if_pos (α:=LObj) (by (try simp only [set_next,new_next]))] | rw [set_H,if_pos (α:=LObj) (by omega)]));exact h2
  ·refine ⟨by have:=hkp.next;simp;omega,fun l hl=>?_⟩
   (repeat (first | rw [new_H,if_neg (α:=LObj) (by (try simp only [set_next,new_next]);omega)] | rw [set_H,if_neg (α:=LObj) (by omega)] | rw [new_H,if_pos (α:=LObj) (by (try simp only [set_next,new_next]))] | rw [set_H,if_pos (α:=LObj) (by omega)]));exact hkp.H l hl
  ·obtain ⟨cv,k1,k2,k3,k4⟩:=hC3 v
   refine ⟨cv,k1,k2,by omega,?_⟩
   rw [k4]
   dsimp only
   rw [han v]
   simp only [touch,Bool.or_assoc]
   rw [show (v==a)=(a==v) from by rw [Bool.eq_iff_iff];simp;exact eq_comm,show (v==b)=(b==v) from by rw [Bool.eq_iff_iff];simp;exact eq_comm]
 ·rintro fr s ⟨f1,f2,f3,f11,hG,h2,hsn,hkp,mes,hM,hC⟩
  rw [List.take_length] at hC
  (repeat' (first | refine qS ?_ | (refine w_e [] ?_;intro J hJ;simp only [];simp [f1,hG])))
  refine qE (CloneE g.es 0 _ (by omega)) (by simp) ?_;rintro r s1 ⟨rfl,hk1⟩
  have hn1:=hk1.next
  have hG1:=(hk1.H st.next (by omega)).trans hG
  have h21:=(hk1.H (st.next+1) (by omega)).trans h2
  have hM1:=(hk1.H (st.next+2) (by omega)).trans hM
  have hs1:st.next+2 < s1.next:=by omega
  have e1:¬ st.next=s1.next:=by omega
  have e2:¬ st.next+1=s1.next:=by omega
  have e3:¬ st.next+2=s1.next:=by omega
  have e4:¬ st.next=s1.next+1:=by omega
  (repeat' (first | refine qS ?_ | refine qB ?_ | ((first | (refine w_e [] ?_;intro J hJ;simp only []) | (refine e_go ?_));simp [hG1,e1,f1];(refine hJ _ _ ?_;clear hJ J;simp only [ak,reduceIte]))))
  refine awp_cell s1.next 26 1 (e:=35) (s:=2) [] [.sl 0 g.es.length (eds g.es)] (by simp) ?_
  refine awp_range 35 34 36 49 (g.vs.length) (fun j fr st2=>fr 2=.pt (st.next+1) 0∧fr 3=.mp (st.next+2)∧fr 6=.pt s1.next 0∧fr 33=.sl 0 g.vs.length (us g.vs)∧st2.H (st.next+1)=.box 35 2 [.nil,.nil]∧st2.H (st.next+2)=.map false [.u32] mes∧s1.next < st2.next∧Keeps st st2∧∃ t,st2.H s1.next=.box 35 2 [.sl t ((g.vs.take j).filter fun v=>g.es.any (touch v)).length (us ((g.vs.take j).filter fun v=>g.es.any (touch v))),.sl 0 g.es.length (eds g.es)]∧OwnT t st ((g.vs.take j).filter fun v=>g.es.any (touch v)) st2) ?_ ?_ ?_
  ·refine ⟨by simp [f2],by simp [f3],by simp,by simp,?_,?_,by simp;omega,?_,s1.next+1,by simp,⟨by omega,by omega,by simp,by simp⟩⟩
   ·(repeat (first | rw [new_H,if_neg (α:=LObj) (by (try simp only [set_next,new_next]);omega)] | rw [set_H,if_neg (α:=LObj) (by omega)] | rw [new_H,if_pos (α:=LObj) (by (try simp only [set_next,new_next]))] | rw [set_H,if_pos (α:=LObj) (by omega)]));exact h21
   ·(repeat (first | rw [new_H,if_neg (α:=LObj) (by (try simp only [set_next,new_next]);omega)] | rw [set_H,if_neg (α:=LObj) (by omega)] | rw [new_H,if_pos (α:=LObj) (by (try simp only [set_next,new_next]))] | rw [set_H,if_pos (α:=LObj) (by omega)]));exact hM1
   ·refine ⟨by have:=hkp.next;simp;omega,fun l hl=>?_⟩
    have:=hkp.next
    (repeat (first | rw [new_H,if_neg (α:=LObj) (by (try simp only [set_next,new_next]);omega)] | rw [set_H,if_neg (α:=LObj) (by omega)] | rw [new_H,if_pos (α:=LObj) (by (try simp only [set_next,new_next]))] | rw [set_H,if_pos (α:=LObj) (by omega)]));rw [hk1.H l (by omega)];exact hkp.H l hl
  ·clear f1 f2 f3 f11 hG h2 hsn hkp hM fr
   rintro j fr s2 hlt ⟨f2,f3,f6,f33,h22,hM2,hs2,hkp,t,hB,t1,t2,t3,t4⟩ fi fn J hJ
   have hd:=qG g.vs j hlt
   have htk:=filter_takeI g.vs (fun v=>g.es.any (touch v)) j hlt
   have hfl:=List.length_filter_le (fun v=>g.es.any (touch v)) (g.vs.take j)
   rw [List.length_take] at hfl
   generalize g.vs.getD j 0=v at *
   generalize (g.vs.take j).filter (fun v=>g.es.any (touch v))=F at *
   obtain ⟨c,c1,c2,c3,c4⟩:=hC v
   cases hany:g.es.any (touch v)
   ·have hc:¬ 0 < c:=fun h=>by have h2:=c4.1 h;simp only [hany] at h2;cases h2
    rw [hany,if_neg (by simp),List.append_nil] at htk
    (repeat' (first | refine qS ?_ | (refine qK ?_;simp only [ak,reduceIte]) | (refine qC ?_;simp [f3,f33,fi,fn,hd,hlt,hM2,c1,hc]) | (refine w_e [] ?_;intro J hJ;simp only [];simp [f3,f33,fi,fn,hd,hlt,hM2,c1,hc];(refine hJ _ _ ?_;clear hJ J;simp only [ak,reduceIte]))))
    exact hJ _ _ (by simp [fi]) (by simp [fn]) ⟨by simp [f2],by simp [f3],by simp [f6],by simp [f33],h22,hM2,hs2,hkp,t,by rw [htk];exact hB,by rw [htk];exact ⟨t1,t2,t3,t4⟩⟩
   ·have hc:0 < c:=c4.2 hany
    rw [hany,if_pos rfl] at htk
    have q1:¬ t=s2.next:=by omega
    have q2:¬ s1.next=s2.next:=by omega
    have q3:¬ s1.next=s2.next+1:=by omega
    have q4:¬ s1.next=t:=box_neT hB t4 (by simp)
    have q5:¬ st.next+1=t:=box_neT h22 t4 (by simp)
    have q6:¬ st.next+2=t:=box_neT hM2 t4 (by simp)
    (repeat' (first | refine qS ?_ | (refine qC ?_;simp [f3,f6,f33,fi,fn,hd,hlt,hM2,c1,hc,hB,t4,q1,q2,q3,q4,t1]) | (refine w_e [] ?_;intro J hJ;simp only [];simp [f3,f6,f33,fi,fn,hd,hlt,hM2,c1,hc,hB,t4,q1,q2,q3,q4,t1];(repeat refine ca ?_);(refine hJ _ _ ?_;clear hJ J;simp only [ak,reduceIte]))))
    refine hJ _ _ (by simp [fi]) (by simp [fn]) ⟨by simp [f2],by simp [f3],by simp [f6],by simp [f33],?_,?_,by simp;omega,?_,s2.next+1,by rw [htk];simp,by rw [htk];exact ⟨by omega,by omega,by simp,by (repeat (first | rw [new_H,if_neg (α:=LObj) (by (try simp only [set_next,new_next]);omega)] | rw [set_H,if_neg (α:=LObj) (by omega)] | rw [new_H,if_pos (α:=LObj) (by (try simp only [set_next,new_next]))] | rw [set_H,if_pos (α:=LObj) (by omega)]));simp⟩⟩
    ·(repeat (first | rw [new_H,if_neg (α:=LObj) (by (try simp only [set_next,new_next]);omega)] | rw [set_H,if_neg (α:=LObj) (by omega)] | rw [new_H,if_pos (α:=LObj) (by (try simp only [set_next,new_next]))] | rw [set_H,if_pos (α:=LObj) (by omega)]));exact h22
    ·(repeat (first | rw [new_H,if_neg (α:=LObj) (by (try simp only [set_next,new_next]);omega)] | rw [set_H,if_neg (α:=LObj) (by omega)] | rw [new_H,if_pos (α:=LObj) (by (try simp only [set_next,new_next]))] | rw [set_H,if_pos (α:=LObj) (by omega)]));exact hM2
    ·refine ⟨by have:=hkp.next;simp;omega,fun l hl=>?_⟩
     have:=hkp.next
     (repeat (first | rw [new_H,if_neg (α:=LObj) (by (try simp only [set_next,new_next]);omega)] | rw [set_H,if_neg (α:=LObj) (by omega)] | rw [new_H,if_pos (α:=LObj) (by (try simp only [set_next,new_next]))] | rw [set_H,if_pos (α:=LObj) (by omega)]));exact hkp.H l hl
  ·clear f1 f2 f3 f11 hG h2 hsn hkp hM fr
   rintro fr s2 ⟨f2,f3,f6,f33,h22,hM2,hs2,hkp,t,hB,t1,t2,t3,t4⟩
   rw [List.take_length] at hB
   (repeat' (first | refine qS ?_ | (refine qR ?_;simp only [ak,reduceIte];simp [f2,f6,h22,hB,e2]) | (refine w_e [] ?_;intro J hJ;simp only [];simp [f2,f6,h22,hB,e2];(refine hJ _ _ ?_;clear hJ J;simp only [ak,reduceIte]))))
   refine ⟨?_,hkp.set (by omega) _⟩
   simp only [z0,z0L,z0_us,z0_edsB]
def lessG (L:Gr) (x:Ed):Gr:=⟨L.vs,L.es.filter fun y=>decide (y≠x)⟩
def leastF (P:Gr→Bool):Gr→List Ed→Gr
 | L,[]=>L
 | L,x::xs=>leastF P (if P (lessG L x)=true then lessG L x else L) xs
def asksF (P:Gr→Bool) (D:Gr→Prop):Gr→List Ed→Prop
 | _,[]=>True
 | L,x::xs=>D (lessG L x)∧asksF P D (if P (lessG L x)=true then lessG L x else L) xs
def bareF (g:Gr):Gr:=⟨g.vs.filter fun v=>g.es.any (touch v),g.es⟩
def pickP (ids:List Int) (e:Ed):Bool:=decide (e.id∈ids)
def cntG (ids:List Int) (L:Gr):Nat:=(L.es.filter (pickP ids)).length
def mostP (ids:List Int) (most:Nat) (L:Gr):Bool:=decide (most≤cntG ids L)
theorem least_mid (ids:List Int) (most:Nat) (vs:List Int) (F:List Ed):∀ (xs K:List Ed),(K++xs).Nodup→(∀ e∈K,pickP ids e=true)→(K=[]∨(K++xs.filter (pickP ids)).length=most)→most≤(K++xs.filter (pickP ids)).length→(∃ n,K++xs.filter (pickP ids)=F.drop n)→
 leastF (mostP ids most) ⟨vs,K++xs⟩ xs=⟨vs,F.drop (F.length - most)⟩
 | [],K,_,_,h3,h4,⟨n,h5⟩=>by
   simp only [List.filter_nil,List.append_nil] at h3 h4 h5 ⊢
   simp only [leastF]
   congr 1
   have hl:K.length=F.length - n:=by rw [h5,List.length_drop]
   rcases h3 with h3 | h3
   ·subst h3
    have:most=0:=by simpa using h4
    subst this
    rw [Nat.sub_zero,List.drop_length]
   ·by_cases h0:most=0
    ·have:K=[]:=List.eq_nil_of_length_eq_zero (h3.trans h0)
     rw [this,h0,Nat.sub_zero,List.drop_length]
    ·rw [h5]
     congr 1
     omega
 | x::xs,K,h1,h2,h3,h4,⟨n,h5⟩=>by
   obtain ⟨hk,hx,hd⟩:=List.nodup_append.1 h1
   obtain ⟨hx1,hx2⟩:=List.nodup_cons.1 hx
   have hxK:x∉K:=fun h=>hd x h x (by simp) rfl
   have hless:lessG ⟨vs,K++x::xs⟩ x=⟨vs,K++xs⟩:=by
    unfold lessG
    congr 1
    simp only [List.filter_append,List.filter_cons,ne_eq,not_true_eq_false,decide_false,Bool.false_eq_true,if_false]
    congr 1
    ·rw [List.filter_eq_self];intro y hy;simp only [decide_eq_true_eq];rintro rfl;exact hxK hy
    ·rw [List.filter_eq_self];intro y hy;simp only [decide_eq_true_eq];rintro rfl;exact hx1 hy
   have hKf:K.filter (pickP ids)=K:=List.filter_eq_self.2 h2
   have hnd:(K++xs).Nodup:=List.nodup_append.2 ⟨hk,hx2,fun a ha b hb=>hd a ha b (List.mem_cons_of_mem _ hb)⟩
   have hcn:cntG ids ⟨vs,K++xs⟩=(K++xs.filter (pickP ids)).length:=by
    unfold cntG;rw [List.filter_append,hKf]
   simp only [leastF,hless]
   by_cases hp:pickP ids x=true
   ·rw [List.filter_cons,if_pos hp] at h3 h4 h5
    simp only [List.length_append,List.length_cons] at h3 h4 hcn
    by_cases hm:most≤(K++xs.filter (pickP ids)).length
    ·rw [if_pos (by unfold mostP;rw [hcn];simpa using hm)]
     have hK:K=[]:=by
      rcases h3 with h3 | h3
      ·exact h3
      ·rw [List.length_append] at hm;omega
     subst hK
     refine least_mid ids most vs F xs [] hnd h2 (.inl rfl) hm ⟨n+1,?_⟩
     simp only [List.nil_append] at h5 ⊢
     rw [← List.tail_drop,← h5];rfl
    ·rw [if_neg (by unfold mostP;rw [hcn];simpa using hm)]
     rw [List.length_append] at hm
     have e:K++x::xs=(K++[x])++xs:=by simp
     rw [e]
     refine least_mid ids most vs F xs (K++[x]) (by rw [← e];exact h1) ?_ (.inr ?_) ?_ ⟨n,by rw [← h5];simp⟩
     ·intro y hy
      rcases List.mem_append.1 hy with hy | hy
      ·exact h2 y hy
      ·rw [List.mem_singleton.1 hy];exact hp
     ·simp only [List.length_append,List.length_cons,List.length_nil];omega
     ·simp only [List.length_append,List.length_cons,List.length_nil];omega
   ·rw [List.filter_cons,if_neg hp] at h3 h4 h5
    rw [if_pos (by unfold mostP;rw [hcn];simpa using h4)]
    exact least_mid ids most vs F xs K hnd h2 h3 h4 ⟨n,h5⟩
theorem least_picks {g:Gr} (hg:GrF g) (ids:List Int) (most:Nat) (h:most≤cntG ids g):leastF (mostP ids most) g g.es=⟨g.vs,(g.es.filter (pickP ids)).drop (cntG ids g - most)⟩:=by
 have hn:g.es.Nodup:=hg.ids.imp fun h e=>by rw [e] at h;omega
 exact least_mid ids most g.vs (g.es.filter (pickP ids)) g.es [] hn (by simp) (.inl rfl) h ⟨0,rfl⟩
theorem bare_chk {g:Gr} (hg:GrF g) {F:List Ed} (hF:F.Sublist g.es):chk (bareF ⟨g.vs,F⟩)=0:=by
 refine chk_mk ⟨hg.rise.sublist List.filter_sublist,fun v hv=>hg.vpos v (List.mem_filter.1 hv).1,hg.ids.sublist hF,fun x hx=>hg.pos x (hF.subset hx),fun x hx=>hg.ne x (hF.subset hx),fun x hx=>?_,?_,?_⟩
 ·obtain ⟨h1,h2⟩:=hg.ends x (hF.subset hx)
  refine ⟨List.mem_filter.2 ⟨h1,List.any_eq_true.2 ⟨x,hx,by simp [touch]⟩⟩,List.mem_filter.2 ⟨h2,List.any_eq_true.2 ⟨x,hx,by simp [touch]⟩⟩⟩
 ·have:=hg.l1;have:=List.length_filter_le (fun v=>F.any (touch v)) g.vs
  simp only [bareF];omega
 ·have:=hg.l2;have:=hF.length_le
  simp only [bareF];omega
theorem bare_alone (g:Gr):alone (bareF g)=0:=by
 unfold alone
 rw [List.countP_eq_zero]
 intro v hv
 obtain ⟨_,h2⟩:=List.mem_filter.1 hv
 obtain ⟨x,hx,ht⟩:=List.any_eq_true.1 h2
 simp only [touch,Bool.or_eq_true,beq_iff_eq] at ht
 simp only [decide_eq_true_eq]
 intro h0
 have hm:∀ w,w∈nbr1 v x→False:=fun w hw=>by
  have:w∈nbr g.es v:=List.mem_flatMap.2 ⟨x,hx,hw⟩
  simp only [bareF] at h0
  rw [h0] at this;cases this
 rcases ht with ht | ht
 ·exact hm x.b (by simp [nbr1,ht])
 ·exact hm x.a (by simp [nbr1,ht])
def lastF (ids:List Int) (most:Nat):List Ed→List Ed→List Ed
 | [],W=>W
 | e::R,W=>if W.length < most then lastF ids most R (if pickP ids e=true then e::W else W) else W
theorem last_take (ids:List Int) (most:Nat):∀ (R W:List Ed),W.length≤most→lastF ids most R W=((R.filter (pickP ids)).take (most - W.length)).reverse++W
 | [],W,_=>by simp [lastF]
 | e::R,W,h=>by
   unfold lastF
   by_cases h1:W.length < most
   ·rw [if_pos h1]
    by_cases hp:pickP ids e=true
    ·rw [if_pos hp,List.filter_cons,if_pos hp,last_take ids most R (e::W) (by simp;omega)]
     obtain ⟨k,hk⟩:∃ k,most - W.length=k+1:=⟨most - W.length - 1,by omega⟩
     rw [hk,List.take_succ_cons,List.reverse_cons,List.append_assoc]
     simp only [List.length_cons,List.cons_append,List.nil_append]
     rw [show most - (W.length+1)=k by omega]
    ·rw [if_neg hp,List.filter_cons,if_neg hp,last_take ids most R W h]
   ·rw [if_neg h1,show most - W.length=0 by omega];simp
theorem last_drop (ids:List Int) (most:Nat) (es:List Ed):lastF ids most es.reverse []=(es.filter (pickP ids)).drop ((es.filter (pickP ids)).length - most):=by
 rw [last_take _ _ _ _ (by simp),List.filter_reverse,List.take_reverse]
 simp
end Go.Proofs.YtiiejclelbilkaaGreatDoor.Aw
