/- Blocks: all of a graph. -/
import Derived.Test.YtiiejclelbilkaaGreatDoorJh
import Derived.Test.YtiiejclelbilkaaGreatDoorAwZ
import Derived.Test.YtiiejclelbilkaaGreatDoorAwFr
import Derived.Test.YtiiejclelbilkaaGreatDoorAwFn
import Derived.Test.YtiiejclelbilkaaGreatDoorAwMr6
import Derived.Test.YtiiejclelbilkaaGreatDoorAwShp
namespace Go.Proofs.YtiiejclelbilkaaGreatDoor.Aw
open Go Go.RowKit Go.Proofs.YtiiejclelbilkaaGreatDoor.Pl Go.Proofs.YtiiejclelbilkaaGreatDoor.Eu
set_option linter.unusedSimpArgs false
set_option linter.unusedVariables false
theorem awp_cutZ {P:Program} {N:Nat} {Q:AQ} {k:List AItem} {fr:Frm} {st:St} {x:Code} (I:Frm→St→Prop) (h1:AWp P N x (AK P N (fun e f s=>e=.normal∧I f s) []) fr st) (h2:∀ fr st,I fr st→AK P N Q k .normal fr st):
 AWp P N x (AK P N Q k) fr st:=by
 refine awp_mono h1 ?_
 rintro e fr' st' ⟨rfl,hI⟩
 exact h2 _ _ hI
theorem awp_cellB {P:Program} {N:Nat} {Q:AQ} {fr:Frm} {st:St} {c:Code} (q e' s':Nat) {e s:Nat} (pre post:List LV) (hH:st.H q=.box e s (pre++.nil::post))
 (h:AWp P N c Q fr ((st.new (.box e' s' [])).set q (.box e s (pre++.ms st.next 0 0::post)))):AWp P N c Q fr st:=by
 refine awp_ghost (fun a w g hi hr _=>?_) h
 have he:=ext_nil w g
 have h1:Inv w g.addNil (st.new (.box e' s' [])):=inv_nil hi _ (.inr ⟨e',s',rfl⟩)
 have hlt:q < st.next:=box_lt hi hH (by simp)
 refine ⟨g.addNil,inv_recell h1 (cs:=pre++.nil::post) (by rw [new_H,if_neg (by omega)];exact hH) (by simp) (fun vs hv=>?_),hr.mono he,he⟩
 obtain ⟨v,k1,k2⟩:=repL_mid pre vs hv
 refine k2 g.addNil _ (Ext.refl _ _) ?_
 simp only [Rep] at k1 ⊢
 exact ⟨none,0,k1,Nat.le_refl _,Nat.zero_le _,fun _=>by simp [G.addNil,hi.next],fun h=>absurd rfl h,by simp [G.addNil,hi.next]⟩
structure AtR (lo:Nat) (ρ:Int→List Nat) (ea:List (List Int×LV)) (tk:Int→Nat) (st:St):Prop where
 get:∀ v,mget ea [v]=if ρ v=[] then none else some (.sl (tk v) (ρ v).length (isN (ρ v)))
 own:∀ v,ρ v≠[]→st.H (tk v)=.own 3 1 (ρ v).length∧(tk v≠0∧lo≤tk v∧tk v < st.next)
 inj:∀ v w,ρ v≠[]→ρ w≠[]→tk v=tk w→v=w
def addR (ρ:Int→List Nat) (v:Int) (k:Nat):Int→List Nat:=fun w=>if w=v then ρ v++[k] else ρ w
theorem AtR.put {lo:Nat} {ρ:Int→List Nat} {ea:List (List Int×LV)} {tk:Int→Nat} {st st':St} (h:AtR lo ρ ea tk st) (v:Int) (k:Nat) {t n:Nat} (hn:n=(ρ v).length+1) (ht:st.next≤t∧t < st'.next∧t≠0∧lo≤t) (hH:st'.H t=.own 3 1 n)
 (ho:∀ w,w≠v→ρ w≠[]→st'.H (tk w)=st.H (tk w)) (hl:st.next≤st'.next):AtR lo (addR ρ v k) (mset ea [v] (.sl t n (isN (ρ v)++[i (k:Int)]))) (fun w=>if w=v then t else tk w) st' where
 get:=fun w=>by
  rw [mget_mset]
  unfold addR
  by_cases e:w=v
  ·subst e
   rw [if_pos rfl,if_pos rfl,if_pos rfl,if_neg (by simp),hn]
   simp [isN]
  ·rw [if_neg (by simpa using e),if_neg e,if_neg e]
   exact h.get w
 own:=fun w hw=>by
  unfold addR at hw ⊢
  by_cases e:w=v
  ·rw [if_pos e,if_pos e]
   exact ⟨by rw [hH,hn];simp,ht.2.2.1,ht.2.2.2,ht.2.1⟩
  ·rw [if_neg e] at hw
   rw [if_neg e,if_neg e]
   obtain ⟨h1,h2,h3,h4⟩:=h.own w hw
   exact ⟨by rw [ho w e hw];exact h1,h2,h3,by omega⟩
 inj:=fun x y hx hy he=>by
  unfold addR at hx hy
  by_cases e1:x=v
  ·by_cases e2:y=v
   ·rw [e1,e2]
   ·rw [if_neg e2] at hy
    simp only [if_pos e1,if_neg e2] at he
    have:=(h.own y hy).2.2.2
    omega
  ·rw [if_neg e1] at hx
   by_cases e2:y=v
   ·simp only [if_neg e1,if_pos e2] at he
    have:=(h.own x hx).2.2.2
    omega
   ·rw [if_neg e2] at hy
    simp only [if_neg e1,if_neg e2] at he
    exact h.inj x y hx hy he
theorem AtR.keeps {lo:Nat} {ρ:Int→List Nat} {ea:List (List Int×LV)} {tk:Int→Nat} {st st':St} (h:AtR lo ρ ea tk st) (hk:Keeps st st'):AtR lo ρ ea tk st':=
 ⟨h.get,fun v hv=>by obtain ⟨h1,h2,h3,h4⟩:=h.own v hv;exact ⟨by rw [hk.H _ h4];exact h1,h2,h3,by have:=hk.next;omega⟩,h.inj⟩
def atK (es:List Ed) (k:Nat) (v:Int):List Nat:=(List.range k).filter fun i=>decide ((eAt es i).a=v∨(eAt es i).b=v)
theorem atK_succ {es:List Ed} {k:Nat} (hne:(eAt es k).a≠(eAt es k).b):atK es (k+1)=addR (addR (atK es k) (eAt es k).a k) (eAt es k).b k:=by
 funext v
 unfold atK addR
 rw [List.range_succ,List.filter_append]
 by_cases hb:v=(eAt es k).b
 ·subst hb
  rw [if_pos rfl,if_neg (fun e=>hne e.symm)]
  simp
 ·rw [if_neg hb]
  by_cases ha:v=(eAt es k).a
  ·subst ha
   simp
  ·rw [if_neg ha]
   have:¬ ((eAt es k).a=v∨(eAt es k).b=v):=by omega
   rw [List.filter_cons,if_neg (by simpa using this)]
   simp
def AtI (g:Gr) (p:Nat) (st:St) (ρ:Int→List Nat) (s:St):Prop:=s.H p=.box 35 2 (grL g)∧s.H (p+4)=.box 119 6 [.sl 0 g.es.length (eds g.es),.mp (p+1),.mp (p+2),.mp (p+3),.ms (p+5) 0 0,.ms (p+6) 0 0]∧s.H (p+2)=.map false [.u32] []∧s.H (p+3)=.map false [.u32] []∧s.H (p+5)=.box 3 1 []∧s.H (p+6)=.box 33 1 []∧p+7≤s.next∧Keeps st s∧
 ∃ ea tk,s.H (p+1)=.map false [.u32] ea∧AtR (p+7) ρ ea tk s
theorem allB_app {es:List Ed} {n:Nat}:∀ (l:List Int) (v:Int) (s:Bw),allB es n (l++[v]) s=(allB es n l s).bind fun s'=>allB es n [v] s'
 | [],v,s=>rfl
 | w::l,v,s=>by
   simp only [List.cons_append,allB]
   split
   ·exact allB_app l v s
   ·cases visF es n w (-1) s with
    | none=>rfl
    | some s'=>exact allB_app l v s'
theorem BAll.sz {g:Gr} {s:Bw} (h:BAll g s):SzB g s:=by
 have h1:=flat_ge s.out fun B hB=>(h.good B hB).ne
 have h2:=len_le h.pn fun i hi=>((h.pl i).1 hi).1
 unfold SzB
 rw [h.stk]
 refine ⟨Nat.zero_le _,?_⟩
 cases hv:s.vis with
 | nil=>
   have:s.out.flatten=[]:=List.eq_nil_iff_forall_not_mem.2 fun i hi=>by
    have:=((h.pl i).1 hi).2
    rw [hv] at this;cases this
   rw [this] at h1
   rw [List.length_nil,Nat.zero_mul]
   exact h1
 | cons w V=>
   rw [List.length_cons,Nat.add_mul]
   omega
theorem AtI.keeps {g:Gr} {p:Nat} {st:St} {ρ:Int→List Nat} {s s':St} (h:AtI g p st ρ s) (hk:Keeps s s'):AtI g p st ρ s':=by
 obtain ⟨h0,h1,h2,h3,h4,h5,h6,h7,ea,tk,h8,h9⟩:=h
 have:=hk.next
 exact ⟨(hk.H _ (by omega)).trans h0,(hk.H _ (by omega)).trans h1,(hk.H _ (by omega)).trans h2,(hk.H _ (by omega)).trans h3,(hk.H _ (by omega)).trans h4,(hk.H _ (by omega)).trans h5,by omega,h7.trans hk,ea,tk,(hk.H _ (by omega)).trans h8,h9.keeps hk⟩
set_option maxHeartbeats 8000000 in
theorem len_flat:∀ {out:List (List Nat)},(∀ B∈out,B≠[])→out.length≤out.flatten.length
 | [],_=>by simp
 | B::out,h=>by
   have h1:=len_flat (out:=out) fun B hB=>h B (List.mem_cons_of_mem _ hB)
   have h2:=List.length_pos_iff.2 (h B (by simp))
   simp only [List.length_cons,List.flatten_cons,List.length_append];omega
theorem out_few {es:List Ed} {out:List (List Nat)} (hall:∀ i,i∈out.flatten↔i < es.length) (hok:∀ B∈out,BlkOk es B) (hnd:out.flatten.Nodup):out.length≤es.length:=by
 have h1:=len_flat fun B hB=>(hok B hB).ne
 have h2:=List.Nodup.length_le_of_subset hnd fun k hk=>List.mem_range.2 ((hall k).1 hk)
 rw [List.length_range] at h2;omega
theorem BlocksK (g:Gr) (hg:GoodE g) (st:St) (hv:g.vs.length≤100) (he:g.es.length≤10):
 ACalls Tryz.prog 58 [.ag (grL g)] st fun r st'=>∃ q,r=.ms q 0 (ledB g.es).length∧st'.H q=.box 33 1 (bkL g.es (ledB g.es))∧st.next≤q∧q < st'.next∧Keeps st st':=by
 obtain ⟨S,hS,hSk,hSa,hSn,hSb⟩:=blocks_ok hg
 have hel:=eds_length g.es
 have hids:=hg.ids
 refine qO tabOk Tryz.func58 rfl rfl Tryz.ntmps58 (rs:=[.tmp 2]) rfl (by simp) ?_
 refine awp_posG fun hpos=>?_
 have x1:¬ st.next=st.next+1:=by omega
 have x2:¬ st.next=st.next+1+1:=by omega
 have x3:¬ st.next=st.next+1+1+1:=by omega
 have x4:¬ st.next=st.next+1+1+1+1:=by omega
 have x5:¬ st.next=st.next+1+1+1+1+1:=by omega
 have x6:¬ st.next=st.next+1+1+1+1+1+1:=by omega
 (repeat' (first | refine qS ?_ | refine qB ?_ | (refine w_e [] ?_;intro J hJ;simp only [];simp [x1,x2,x3,x4];(refine hJ _ _ ?_;clear hJ J;simp only [ak,reduceIte]))))
 refine awp_cellB (st.next+1+1+1+1) 3 1 (e:=119) (s:=6) [.sl 0 g.es.length (eds g.es),.mp (st.next+1),.mp (st.next+1+1),.mp (st.next+1+1+1)] [.nil] (by simp) ?_
 refine awp_cellB (st.next+1+1+1+1) 33 1 (e:=119) (s:=6) [.sl 0 g.es.length (eds g.es),.mp (st.next+1),.mp (st.next+1+1),.mp (st.next+1+1+1),.ms (st.next+5) 0 0] [] (by simp) ?_
 obtain ⟨p,hp⟩:∃ p,p=st.next:=⟨_,rfl⟩
 refine awp_range 18 17 19 55 (g.es.length) (fun j fr st2=>fr 1=.pt p 0∧fr 3=.pt (p+4) 0∧fr 16=.sl 0 g.es.length (eds g.es)∧AtI g p st (atK g.es j) st2) ?_ ?_ ?_
 ·subst hp
  refine ⟨by simp,by simp,by simp,?_⟩
  refine ⟨by simp [x1,x2,x3,x4,x5,x6],?_,by simp,by simp,by simp,by simp,by simp,?_,[],fun _=>0,by simp,⟨fun v=>rfl,fun v hv=>absurd rfl hv,fun v w hv=>absurd rfl hv⟩⟩
  ·simp
  ·(repeat (first | exact Keeps.refl _ | (refine Keeps.trans ?_ (Keeps.new _ _)) | (refine Keeps.set ?_ (by omega) _)))
 ·clear x1 x2 x3 x4 x5 x6
  rintro j fr s hlt ⟨f1,f3,f16,hI⟩ fi fn JO hJO
  have hde:=eds_drop g.es j hlt
  have hj3:j * 3 < g.es.length * 3:=by omega
  have hne:=hg.ne _ (eAt_mem hlt)
  have hsu:=atK_succ (es:=g.es) (k:=j) hne
  rw [hsu] at hJO
  clear hsu
  unfold eAt at hJO
  generalize g.es.getD j ed0=x at *
  obtain ⟨id,xa,xb⟩:=x
  simp only at hJO hde
  have hρ:∀ w,(atK g.es j w).length≤10000:=fun w=>by
   have:=List.length_filter_le (fun i=>decide ((eAt g.es i).a=w∨(eAt g.es i).b=w)) (List.range j)
   rw [List.length_range] at this
   unfold atK;omega
  generalize atK g.es j=ρ at *
  have hpn:p+7≤s.next:=hI.2.2.2.2.2.2.1
  (repeat' (first | refine qS ?_ | (refine w_e [] ?_;intro J hJ;simp only [];simp [f1,f3,f16,fi,fn,hde,hlt,hj3,hel];(refine hJ _ _ ?_;clear hJ J;simp only [ak,reduceIte]))))
  refine awp_weakBk (fun f T=>f 1=.pt p 0∧f 3=.pt (p+4) 0∧f 4=i j∧f 5=.pt s.next 0∧f 16=.sl 0 g.es.length (eds g.es)∧f 17=i g.es.length∧f 18=i j∧s.next < T.next∧T.H s.next=.box 38 3 [u id,u xa,u xb]∧AtI g p st (ρ) T) ⟨by simp [f1],by simp [f3],by simp,by simp,by simp [f16],by simp [fn],by simp [fi],by simp,by simp,hI.keeps (Keeps.new _ _)⟩ ?_
  generalize s.next=X at *
  clear f1 f3 f16 fi fn hI fr
  rintro fr s2 ⟨f1,f3,f4,f5,f16,fn,fi,hXl,hX,hI⟩
  refine awp_cutBk (fun f T=>f 1=.pt p 0∧f 3=.pt (p+4) 0∧f 4=i j∧f 5=.pt X 0∧f 16=.sl 0 g.es.length (eds g.es)∧f 17=i g.es.length∧f 18=i j∧X < T.next∧T.H X=.box 38 3 [u id,u xa,u xb]∧AtI g p st (addR ρ xa j) T) ?_ ?_
  ·obtain ⟨hG,hW,hN,hL,hS,hB,hnx,hkp,ea,tk,hA,hR⟩:=hI
   have hget:=hR.get xa
   have k1:¬ X=s2.next:=by omega
   have k2:¬ X=s2.next+1:=by omega
   have k3:¬ X=p+1:=by omega
   have e0:¬ p+4=s2.next:=by omega
   have e1:¬ p+1=s2.next:=by omega
   have e2:¬ p+2=s2.next:=by omega
   have e3:¬ p+3=s2.next:=by omega
   have e4:¬ p=s2.next:=by omega
   have e5:¬ p+5=s2.next:=by omega
   have e6:¬ p+6=s2.next:=by omega
   have e7:¬ p+4=s2.next+1:=by omega
   have e8:¬ p+1=s2.next+1:=by omega
   have e9:¬ p+2=s2.next+1:=by omega
   have e10:¬ p+3=s2.next+1:=by omega
   have e11:¬ p=s2.next+1:=by omega
   have e12:¬ p+5=s2.next+1:=by omega
   have e13:¬ p+6=s2.next+1:=by omega
   have e14:¬ s2.next+1=p+1:=by omega
   have e15:¬ s2.next=p:=by omega
   have tkl:∀ w,ρ w≠[]→¬ tk w=s2.next∧¬ tk w=s2.next+1∧¬ tk w=p+1:=fun w hw=>by have:=(hR.own w hw).2;omega
   by_cases hr:ρ xa=[]
   ·rw [if_pos hr] at hget
    (refine w_s [] [X,p+4,p+1] [(0,true),(1,true),(2,true),(3,true),(4,true),(5,true),(6,true),(7,true),(8,true),(9,true),(10,true),(11,true),(12,true),(13,true),(14,true),(15,true),(16,false)] ?_;intro J hJ;simp [f3,f4,f5,hX,hW,hA,hget,k1,k2,k3,e0,e1,e4,e7,e8,e14,e15];(repeat refine ca ?_);(refine hJ _ _ ?_;clear hJ J;simp only [ak,reduceIte]))
    have hput:=hR.put xa j (t:=s2.next+1) (n:=1) (st':=(((s2.new (.own 3 1 1)).new (.own 3 1 1)).set (p+1) (.map false [.u32] (mset ea [xa] (.sl (s2.next+1) 1 [i (j:Int)]))))) (by rw [hr];rfl) ⟨by omega,by simp,by omega,by omega⟩ (by simp [e14,e15]) (fun w hw h0=>by obtain ⟨t1,t2,t3⟩:=tkl w h0;simp [t1,t2,t3]) (by simp;omega)
    rw [hr] at hput
    refine ⟨by trivial,by simp [f1],by simp [f3],by simp [f4],by simp [f5],by simp [f16],by simp [fn],by simp [fi],by simp;omega,by simp [k1,k2,k3,hX],?_⟩
    refine ⟨by simp [e4,e11,hG],by simp [e0,e7,hW],by simp [e2,e9,hN],by simp [e3,e10,hL],by simp [e5,e12,hS],by simp [e6,e13,hB],by simp;omega,?_,_,_,by simp<;>rfl,hput⟩
    (repeat (first | exact hkp | (refine Keeps.trans ?_ (Keeps.new _ _)) | (refine Keeps.set ?_ (by omega) _)))
   ·rw [if_neg hr] at hget
    obtain ⟨hO,t0,tl,tu⟩:=hR.own xa hr
    obtain ⟨t1,t2,t3⟩:=tkl xa hr
    have t4:¬ X=tk xa:=fun e=>by rw [← e,hX] at hO;cases hO
    have hrl:(isN (ρ xa)).length=(ρ xa).length:=isN_length _
    have hrb:(ρ xa).length≤10000:=hρ _
    have p0:¬ p=tk xa:=by omega
    have p1:¬ p+1=tk xa:=by omega
    have p2:¬ p+2=tk xa:=by omega
    have p3:¬ p+3=tk xa:=by omega
    have p4:¬ p+4=tk xa:=by omega
    have p5:¬ p+5=tk xa:=by omega
    have p6:¬ p+6=tk xa:=by omega
    (refine w_s [] [X,p+4,p+1] [(0,true),(1,true),(2,true),(3,true),(4,true),(5,true),(6,true),(7,true),(8,true),(9,true),(10,true),(11,true),(12,true),(13,true),(14,true),(15,true),(16,false)] ?_;intro J hJ;simp [f3,f4,f5,hX,hW,hA,hget,hO,hrl,t0,t1,t4,p1,p4,k1,k2,k3,e0,e1,e4,e7,e8,e14,e15];(repeat refine ca ?_);(refine hJ _ _ ?_;clear hJ J;simp only [ak,reduceIte]))
    have hput:=hR.put xa j (t:=s2.next+1) (n:=(ρ xa).length+1) (st':=((((s2.new (.own 3 1 1)).set (tk xa) .dead).new (.own 3 1 ((ρ xa).length+1))).set (p+1) (.map false [.u32] (mset ea [xa] (.sl (s2.next+1) ((ρ xa).length+1) (isN (ρ xa)++[i (j:Int)]))))) ) rfl ⟨by omega,by simp,by omega,by omega⟩ (by simp [e14,e15]) (fun w hw h0=>by obtain ⟨u1,u2,u3⟩:=tkl w h0;have u4:¬ tk w=tk xa:=fun e=>hw (hR.inj w xa h0 hr e);simp [u1,u2,u3,u4]) (by simp;omega)
    refine ⟨by trivial,by simp [f1],by simp [f3],by simp [f4],by simp [f5],by simp [f16],by simp [fn],by simp [fi],by simp;omega,by simp [k1,k2,k3,t4,hX],?_⟩
    refine ⟨by simp [p0,e4,e11,hG],by simp [p4,e0,e7,hW],by simp [p2,e2,e9,hN],by simp [p3,e3,e10,hL],by simp [p5,e5,e12,hS],by simp [p6,e6,e13,hB],by simp;omega,?_,_,_,by simp<;>rfl,hput⟩
    (repeat (first | exact hkp | (refine Keeps.trans ?_ (Keeps.new _ _)) | (refine Keeps.set ?_ (by omega) _)))
  clear f1 f3 f4 f5 f16 fi fn hXl hX hI fr s2
  rintro fr s2 ⟨f1,f3,f4,f5,f16,fn,fi,hXl,hX,hI⟩
  have hρ':∀ w,((addR ρ xa j) w).length≤10001:=fun w=>by
   have h1:=hρ xa
   have h2:=hρ w
   unfold addR
   split
   ·rw [List.length_append,List.length_singleton];omega
   ·omega
  refine awp_cutZ (fun f T=>f 1=.pt p 0∧f 3=.pt (p+4) 0∧f 4=i j∧f 5=.pt X 0∧f 16=.sl 0 g.es.length (eds g.es)∧f 17=i g.es.length∧f 18=i j∧X < T.next∧T.H X=.box 38 3 [u id,u xa,u xb]∧AtI g p st (addR (addR ρ xa j) xb j) T) ?_ ?_
  ·obtain ⟨hG,hW,hN,hL,hS,hB,hnx,hkp,ea,tk,hA,hR⟩:=hI
   have hget:=hR.get xb
   have k1:¬ X=s2.next:=by omega
   have k2:¬ X=s2.next+1:=by omega
   have k3:¬ X=p+1:=by omega
   have e0:¬ p+4=s2.next:=by omega
   have e1:¬ p+1=s2.next:=by omega
   have e2:¬ p+2=s2.next:=by omega
   have e3:¬ p+3=s2.next:=by omega
   have e4:¬ p=s2.next:=by omega
   have e5:¬ p+5=s2.next:=by omega
   have e6:¬ p+6=s2.next:=by omega
   have e7:¬ p+4=s2.next+1:=by omega
   have e8:¬ p+1=s2.next+1:=by omega
   have e9:¬ p+2=s2.next+1:=by omega
   have e10:¬ p+3=s2.next+1:=by omega
   have e11:¬ p=s2.next+1:=by omega
   have e12:¬ p+5=s2.next+1:=by omega
   have e13:¬ p+6=s2.next+1:=by omega
   have e14:¬ s2.next+1=p+1:=by omega
   have e15:¬ s2.next=p:=by omega
   have tkl:∀ w,(addR ρ xa j) w≠[]→¬ tk w=s2.next∧¬ tk w=s2.next+1∧¬ tk w=p+1:=fun w hw=>by have:=(hR.own w hw).2;omega
   by_cases hr:(addR ρ xa j) xb=[]
   ·rw [if_pos hr] at hget
    (refine w_s [] [X,p+4,p+1] [(0,true),(1,true),(2,true),(3,true),(4,true),(5,true),(6,true),(7,true),(8,true),(9,true),(10,true),(11,true),(12,true),(13,true),(14,true),(15,true),(16,false)] ?_;intro J hJ;simp [f3,f4,f5,hX,hW,hA,hget,k1,k2,k3,e0,e1,e4,e7,e8,e14,e15];(repeat refine ca ?_);(refine hJ _ _ ?_;clear hJ J;simp only [ak,reduceIte]))
    have hput:=hR.put xb j (t:=s2.next+1) (n:=1) (st':=(((s2.new (.own 3 1 1)).new (.own 3 1 1)).set (p+1) (.map false [.u32] (mset ea [xb] (.sl (s2.next+1) 1 [i (j:Int)]))))) (by rw [hr];rfl) ⟨by omega,by simp,by omega,by omega⟩ (by simp [e14,e15]) (fun w hw h0=>by obtain ⟨t1,t2,t3⟩:=tkl w h0;simp [t1,t2,t3]) (by simp;omega)
    rw [hr] at hput
    refine ⟨by trivial,by simp [f1],by simp [f3],by simp [f4],by simp [f5],by simp [f16],by simp [fn],by simp [fi],by simp;omega,by simp [k1,k2,k3,hX],?_⟩
    refine ⟨by simp [e4,e11,hG],by simp [e0,e7,hW],by simp [e2,e9,hN],by simp [e3,e10,hL],by simp [e5,e12,hS],by simp [e6,e13,hB],by simp;omega,?_,_,_,by simp<;>rfl,hput⟩
    (repeat (first | exact hkp | (refine Keeps.trans ?_ (Keeps.new _ _)) | (refine Keeps.set ?_ (by omega) _)))
   ·rw [if_neg hr] at hget
    obtain ⟨hO,t0,tl,tu⟩:=hR.own xb hr
    obtain ⟨t1,t2,t3⟩:=tkl xb hr
    have t4:¬ X=tk xb:=fun e=>by rw [← e,hX] at hO;cases hO
    have hrl:(isN ((addR ρ xa j) xb)).length=((addR ρ xa j) xb).length:=isN_length _
    have hrb:((addR ρ xa j) xb).length≤10001:=hρ' _
    have p0:¬ p=tk xb:=by omega
    have p1:¬ p+1=tk xb:=by omega
    have p2:¬ p+2=tk xb:=by omega
    have p3:¬ p+3=tk xb:=by omega
    have p4:¬ p+4=tk xb:=by omega
    have p5:¬ p+5=tk xb:=by omega
    have p6:¬ p+6=tk xb:=by omega
    (refine w_s [] [X,p+4,p+1] [(0,true),(1,true),(2,true),(3,true),(4,true),(5,true),(6,true),(7,true),(8,true),(9,true),(10,true),(11,true),(12,true),(13,true),(14,true),(15,true),(16,false)] ?_;intro J hJ;simp [f3,f4,f5,hX,hW,hA,hget,hO,hrl,t0,t1,t4,p1,p4,k1,k2,k3,e0,e1,e4,e7,e8,e14,e15];(repeat refine ca ?_);(refine hJ _ _ ?_;clear hJ J;simp only [ak,reduceIte]))
    have hput:=hR.put xb j (t:=s2.next+1) (n:=((addR ρ xa j) xb).length+1) (st':=((((s2.new (.own 3 1 1)).set (tk xb) .dead).new (.own 3 1 (((addR ρ xa j) xb).length+1))).set (p+1) (.map false [.u32] (mset ea [xb] (.sl (s2.next+1) (((addR ρ xa j) xb).length+1) (isN ((addR ρ xa j) xb)++[i (j:Int)]))))) ) rfl ⟨by omega,by simp,by omega,by omega⟩ (by simp [e14,e15]) (fun w hw h0=>by obtain ⟨u1,u2,u3⟩:=tkl w h0;have u4:¬ tk w=tk xb:=fun e=>hw (hR.inj w xb h0 hr e);simp [u1,u2,u3,u4]) (by simp;omega)
    refine ⟨by trivial,by simp [f1],by simp [f3],by simp [f4],by simp [f5],by simp [f16],by simp [fn],by simp [fi],by simp;omega,by simp [k1,k2,k3,t4,hX],?_⟩
    refine ⟨by simp [p0,e4,e11,hG],by simp [p4,e0,e7,hW],by simp [p2,e2,e9,hN],by simp [p3,e3,e10,hL],by simp [p5,e5,e12,hS],by simp [p6,e6,e13,hB],by simp;omega,?_,_,_,by simp<;>rfl,hput⟩
    (repeat (first | exact hkp | (refine Keeps.trans ?_ (Keeps.new _ _)) | (refine Keeps.set ?_ (by omega) _)))
  rintro fr s3 ⟨f1,f3,f4,f5,f16,fn,fi,hXl,hX,hI⟩
  simp only [ak]
  exact hJO _ _ (by simp [fi]) (by simp [fn]) ⟨f1,f3,f16,hI⟩
 ·clear x1 x2 x3 x4 x5 x6
  rintro fr s1 ⟨f1,f3,f16,hI⟩
  have hI':=hI
  obtain ⟨hG,hW,hN,hL,hSt,hB,hnx,hkp,ea,tk,hA,hR⟩:=hI'
  have hget:∀ v,mget ea [v]=if atP g.es v=[] then none else some (.sl (tk v) (atP g.es v).length (isN (atP g.es v))):=hR.get
  have hb0:BwAt g (p+1) (p+4) (p+1) (p+2) (p+3) tk ⟨[],[],[],[]⟩ s1:=by
   refine ⟨⟨p+5,p+6,[],ea,hW,⟨hA,hget⟩,hN,hL,⟨hSt,rfl⟩,hB,⟨by omega,by omega,by omega⟩,by omega,by omega,by omega,by omega⟩,⟨by omega,by omega,by omega,by omega⟩,by omega,by omega,by omega,by omega⟩
  have hall0:BAll g ⟨[],[],[],[]⟩:=⟨rfl,.nil,fun w hw=>(by cases hw),fun w hw=>(by cases hw),rfl,fun i=>by simp,by simp,fun B hB=>(by cases hB)⟩
  clear hW hN hL hSt hB hA hR hI
  (repeat' (first | refine qS ?_ | refine qB ?_ | (refine w_e [] ?_;intro J hJ;simp only [];simp [f1,hG];(refine hJ _ _ ?_;clear hJ J;simp only [ak,reduceIte]))))
  refine awp_range 59 58 60 73 (g.vs.length) (fun j fr st2=>fr 1=.pt p 0∧fr 3=.pt (p+4) 0∧fr 57=.sl 0 g.vs.length (us g.vs)∧KbB (p+1) s1 st2∧∃ sB,allB g.es g.vs.length (g.vs.take j) ⟨[],[],[],[]⟩=some sB∧BAll g sB∧BwAt g (p+1) (p+4) (p+1) (p+2) (p+3) tk sB st2) ?_ ?_ ?_
  ·exact ⟨by simp [f1],by simp [f3],by simp,KbB.refl _ _,_,rfl,hall0,hb0⟩
  ·clear f1 f3 f16 hb0 hall0 fr
   rintro j fr s2 hlt ⟨f1,f3,f57,hkb,sB,hsB,hall,hbw⟩ fi fn JO hJO
   have hd:=qG g.vs j hlt
   have hvm:g.vs.getD j 0∈g.vs:=by rw [getD_lt _ _ hlt];exact List.getElem_mem _
   have htk:g.vs.take (j+1)=g.vs.take j++[g.vs.getD j 0]:=by rw [List.take_succ_eq_append_getElem hlt,getD_lt _ _ hlt]
   rw [htk,allB_app,hsB] at hJO
   simp only [Option.bind_some] at hJO
   generalize g.vs.getD j 0=v at *
   have hm:=mget_nb sB.vis v
   have hsz:=hall.sz
   obtain ⟨s3,e3,hall3,_,_⟩:=all_ok hg g.vs.length (Nat.le_refl _) [v] sB (fun w hw=>by rw [List.mem_singleton] at hw;rw [hw];exact hvm) hall
   rw [e3] at hJO
   have hbw':=hbw
   obtain ⟨⟨tS,tB,CS,ea2,jW,-,jN,-,-,-,-,-⟩,-,-⟩:=hbw'
   by_cases hin:v∈sB.vis
   ·rw [if_pos hin] at hm
    have e4:s3=sB:=by
     unfold allB at e3
     rw [if_pos hin] at e3
     exact (Option.some.inj e3).symm
    have hz1:1≤nmW sB.vis v:=by unfold nmW;rw [if_pos hin];omega
    generalize nmW sB.vis v=z at *
    have hzb:(z==0)=false:=by rw [beq_eq_false_iff_ne];omega
    have hz0:¬ z=0:=by omega
    (repeat' (first | refine qS ?_ | (refine qK ?_;simp only [ak,reduceIte]) | (refine qC ?_;simp [f3,f57,fi,fn,hd,hlt,jW,jN,hm,hzb,hz0]) | (refine w_e [] ?_;intro J hJ;simp only [];simp [f3,f57,fi,fn,hd,hlt,jW,jN,hm,hzb,hz0];(refine hJ _ _ ?_;clear hJ J;simp only [ak,reduceIte]))))
    exact hJO _ _ (by simp [fi]) (by simp [fn]) ⟨by simp [f1],by simp [f3],by simp [f57],hkb,s3,rfl,hall3,by rw [e4];exact hbw⟩
   ·rw [if_neg hin] at hm
    have hpre:BPre g (fun _=>False) sB v (-1):=⟨hall.ln,hall.nd,fun a ha=>ha.elim,fun w hw _=>hall.fin w hw,hin,fun a b ha=>ha.elim,.inl ⟨rfl,fun a ha=>ha⟩⟩
    (repeat' (first | refine qS ?_ | (refine qC ?_;simp [f3,f57,fi,fn,hd,hlt,jW,jN,hm]) | (refine w_e [] ?_;intro J hJ;simp only [];simp [f3,f57,fi,fn,hd,hlt,jW,jN,hm];(try (refine hJ _ _ ?_;clear hJ J;simp only [ak,reduceIte])))))
    refine qE (visitS g hg (p+1) (p+4) (p+1) (p+2) (p+3) tk hv he g.vs.length _ sB v (-1) _ hpre hvm hall.sub (by omega) hsz hbw) (by simp) ?_;rintro r s4 ⟨s5,h5,hb5,hk5⟩
    have e5:s3=s5:=by
     unfold allB at e3
     rw [if_neg hin,h5] at e3
     exact (Option.some.inj e3).symm
    (repeat' (refine e_go ?_;simp [];(refine hJ _ _ ?_;clear hJ J;simp only [ak,reduceIte])))
    exact hJO _ _ (by simp [fi]) (by simp [fn]) ⟨by simp [f1],by simp [f3],by simp [f57],hkb.trans hk5,s3,rfl,hall3,by rw [e5];exact hb5⟩
  ·clear f1 f3 f16 hb0 hall0 fr
   rintro fr s2 ⟨f1,f3,f57,hkb,sB,hsB,hall,hbw⟩
   rw [List.take_length,hS] at hsB
   obtain rfl:=Option.some.inj hsB
   have hsz:=hall.sz
   obtain ⟨_,sb⟩:=sz_bound hv he hall.nd hall.sub
   obtain ⟨⟨tS,tB,CS,ea2,jW,-,jN,-,-,jB,-,b1,b2,b3,b4⟩,-,d1,-⟩:=hbw
   (repeat' (first | refine qS ?_ | (refine w_e [] ?_;intro J hJ;simp only [];simp [f3,jW])))
   refine qE (SortB hids S.out hSa hSb hSn tB _ (by have:=hsz.2;have:=out_few hSa hSb hSn;omega) b4 jB) (by simp) ?_;rintro r s4 ⟨h1,h2,h3⟩
   have hW4:=(h3.2 (p+4) (box_neB jW jB (by simp)) d1).trans jW
   have hle:=h2.length_eq
   (repeat' (first | refine qS ?_ | (refine qR ?_;simp only [ak,reduceIte];simp [f3,hW4]) | ((first | (refine w_e [] ?_;intro J hJ;simp only []) | (refine e_go ?_));simp [f3,hW4];(refine hJ _ _ ?_;clear hJ J;simp only [ak,reduceIte]))))
   refine ⟨tB,by simp [hle],h1,by omega,Nat.lt_of_lt_of_le b4 h3.1,?_⟩
   refine ⟨Nat.le_trans hkp.next (Nat.le_trans hkb.next h3.1),fun x hx=>?_⟩
   rw [h3.2 x (by omega) (by have:=hkb.next;omega),hkb.H x (by omega),hkp.H x hx]
theorem belL_edsB (n:Nat):∀ l:List Ed,belL n (eds l):=fun l=>by
 induction l with
 | nil=>simp only [eds,List.flatMap_nil,belL]
 | cons x l ih=>simp only [eds,List.flatMap_cons,edL,List.cons_append,List.nil_append,belL];exact ⟨trivial,trivial,trivial,ih⟩
theorem belL_bk (n:Nat) (es:List Ed):∀ out:List (List Nat),belL n (bkL es out):=fun out=>by
 induction out with
 | nil=>simp only [bkL,List.map_nil,belL]
 | cons B out ih=>simp only [bkL,List.map_cons,belL];exact ⟨⟨.inl rfl,belL_edsB _ _⟩,ih⟩
theorem Blocks (g:Gr) (hg:GoodE g) (st:St) (hv:g.vs.length≤100) (he:g.es.length≤10):
 ACalls Tryz.prog 58 [.ag (grL g)] st fun r st'=>r=.sl 0 (ledB g.es).length (bkL g.es (ledB g.es))∧st'=st:=by
 refine qT (Q:=fun r=>r=.sl 0 (ledB g.es).length (bkL g.es (ledB g.es))) (acalls_freeze ((BlocksK g hg st hv he).mono ?_)) fun r h=>by subst h;exact ⟨.inl rfl,belL_bk _ _ _⟩
 rintro r s ⟨q,rfl,hH,hq,hq2,hk⟩
 have hl:=bkL_length g.es (ledB g.es)
 exact ⟨q,_,_,_,_,rfl,hH,by rw [hl,Nat.mul_one];exact Nat.le_refl _,by rw [List.take_of_length_le (by rw [hl,Nat.mul_one];exact Nat.le_refl _)],hk.set hq _⟩
end Go.Proofs.YtiiejclelbilkaaGreatDoor.Aw
namespace Go.Proofs.YtiiejclelbilkaaGreatDoor.Aw
open Go Go.RowKit Go.Proofs.YtiiejclelbilkaaGreatDoor.Pl
set_option linter.unusedSimpArgs false
set_option linter.unusedVariables false
def embR:Option Mp→LV
 | none=>.tu [.ag [.sl 0 0 [],.sl 0 0 [],.sl 0 0 []],bb false]
 | some m=>.tu [.ag (mpL m),bb true]
noncomputable def blksG (g:Gr):List (List Ed):=(ledB (sE g.es)).map fun B=>B.map (eAt (sE g.es))
def edsLs (l:List (List Ed)):List LV:=l.map fun l=>.sl 0 l.length (eds l)
theorem sE_sublist (l:List Ed):(sE l).Sublist l:=by
 induction l using snocI with
 | h0=>exact List.Sublist.refl _
 | h1 l x ih=>
   rw [sE_snoc]
   split
   ·exact ih.trans (List.sublist_append_left _ _)
   ·exact ih.append (List.Sublist.refl _)
theorem GoodE.simple {g:Gr} (h:GoodE g):GoodE ⟨g.vs,sE g.es⟩:=
 ⟨⟨h.rise,fun x hx=>h.ends x (sE_sub _ x hx)⟩,h.ids.sublist (sE_sublist _),fun x hx=>h.pos x (sE_sub _ x hx),fun x hx=>h.ne x (sE_sub _ x hx)⟩
theorem blksG_len (g:Gr):(blksG g).length≤(sE g.es).length:=by
 unfold blksG ledB
 rw [List.length_map,List.length_map]
 exact Nat.le_trans (List.length_filter_le _ _) (by rw [List.length_range];exact Nat.le_refl _)
theorem ledB_okP {g:Gr} (hg:GoodE g) {B:List Nat} (hB:B∈ledB g.es):BlkOk g.es B:=by
 unfold ledB at hB
 obtain ⟨i,hi,rfl⟩:=List.mem_map.1 hB
 rw [List.mem_filter,List.mem_range] at hi
 obtain ⟨s,_,_,h2,_,h3⟩:=blocks_ok hg
 obtain ⟨B,hB,hiB⟩:=List.mem_flatten.1 ((h2 i).2 hi.1)
 rw [← (h3 B hB).cls hiB]
 exact h3 B hB
theorem blksG_dr {g:Gr} (hg:GoodE g) {l:List Ed} (hl:l∈blksG g):DrE l∧∀ e∈l,e∈g.es:=by
 unfold blksG at hl
 obtain ⟨B,hB,rfl⟩:=List.mem_map.1 hl
 have hg2:=hg.simple
 have hB:BlkOk (sE g.es) B:=ledB_okP hg2 hB
 have hin:∀ e∈B.map (eAt (sE g.es)),e∈sE g.es:=fun e he=>by
  obtain ⟨i,hi,rfl⟩:=List.mem_map.1 he
  have e:eAt (sE g.es) i=(sE g.es)[i]'(hB.lt i hi):=getE_lt _ _ (hB.lt i hi)
  rw [e]
  exact List.getElem_mem _
 refine ⟨⟨?_,fun x hx=>hg2.pos x (hin x hx),fun x hx=>hg2.ne x (hin x hx)⟩,fun e he=>sE_sub _ e (hin e he)⟩
 rw [List.pairwise_map]
 refine hB.rise.imp_of_mem fun {i j} hi hj hij=>?_
 have e:∀ k,(hk:k∈B)→eAt (sE g.es) k=(sE g.es)[k]'(hB.lt k hk):=fun k hk=>getE_lt _ _ (hB.lt k hk)
 rw [e i hi,e j hj]
 exact List.pairwise_iff_getElem.1 hg2.ids i j (hB.lt i hi) (hB.lt j hj) hij
theorem z0m (R:List (List Int)):z0L (R.map fun r=>LV.sl 0 r.length (us r))=R.map fun r=>LV.sl 0 r.length (us r):=by
 induction R with
 | nil=>rfl
 | cons r R ih=>simp only [List.map_cons,z0L,z0,z0_us];rw [ih]
theorem edsLs_drop (l:List (List Ed)) (j:Nat) (h:j < l.length):(edsLs l).drop j=.sl 0 (l.getD j []).length (eds (l.getD j []))::edsLs (l.drop (j+1)):=by
 unfold edsLs
 rw [← List.map_drop,List.drop_eq_getElem_cons h,List.getD_eq_getElem?_getD,List.getElem?_eq_getElem h];rfl
theorem insJ_len (x:Int):∀ l,(insJ x l).length≤l.length+1
 | []=>by simp [insJ]
 | y::l=>by
   have:=insJ_len x l
   unfold insJ
   split
   ·simp
   ·split
    ·simp;omega
    ·simp
theorem srtF_len:∀ l,(srtF l).length≤l.length
 | []=>by simp [srtF]
 | x::l=>by
   have h:=srtF_len l
   have h2:=insJ_len x (srtF l)
   unfold srtF at h h2 ⊢
   rw [List.foldr_cons,List.length_cons];omega
theorem sum3P (l:List Ed):(List.map (fun _:Ed=>3) l).sum=l.length * 3:=by
 induction l with
 | nil=>rfl
 | cons x l ih=>simp only [List.map_cons,List.sum_cons,List.length_cons,ih];omega
def TI (M1 M2 a:Nat) (s3 s8:St) (T:TL) (st:St):Prop:=Keeps s3 st∧s8.next≤st.next∧(∀ l,a≤l→l < s8.next→st.H l=s8.H l)∧∃ A,MRow false [.u32] 26 1 A M2 M2 st∧RowA T A∧∀ x∈A,x.2.1 < a∨s8.next≤x.2.1
set_option maxHeartbeats 8000000 in
theorem sEmbed (g:Gr) (hv:g.vs.length≤1000) (he:g.es.length≤10) {o:Option Mp} (ho:(if chk g=0 then embedF g (blksG g) else some none)=some o) (st:St):
 ACalls Tryz.prog 29 [.ag (grL g)] st fun r st'=>r=embR o∧Keeps st st':=by
 refine acalls_z0 ?_
 have hel:=eds_length g.es
 refine qO tabOk Tryz.func29 rfl rfl Tryz.ntmps29 (rs:=[.cell 2 46,.tmp 3]) rfl (by simp) ?_
 refine awp_posG fun hpos=>?_
 (repeat' (first | refine qS ?_ | (refine w_e [] ?_;intro J hJ;simp only [];simp [];(try (refine hJ _ _ ?_;clear hJ J;simp only [ak,reduceIte])))))
 refine qE (Check g _ hv (by omega)) (by simp) ?_;rintro r s1 ⟨rfl,hk1⟩
 have hn1:=hk1.next
 simp only [new_next] at hn1
 have hG1:s1.H st.next=.box 35 2 (grL g):=by rw [hk1.H _ (by simp;omega)];simp
 have hO1:s1.H (st.next+1)=.box 46 3 [.nil,.nil,.nil]:=by rw [hk1.H _ (by simp)];simp
 have hK1:Keeps st s1:=((Keeps.new _ _).trans (Keeps.new _ _)).trans hk1
 by_cases hc:chk g=0
 case neg=>
  rw [if_neg hc] at ho
  obtain rfl:none=o:=Option.some.inj ho
  have hc2:(chk g != 0)=true:=by simpa using hc
  (repeat' (first | refine qS ?_ | (refine qR ?_;simp only [ak,reduceIte];simp [hc2,hO1]) | (refine qC ?_;simp [hc2,hO1]) | ((first | (refine w_e [] ?_;intro J hJ;simp only []) | (refine e_go ?_));simp [hc2,hO1];(refine hJ _ _ ?_;clear hJ J;simp only [ak,reduceIte]))))
  exact ⟨by simp [embR,z0,z0L],hK1.set (by omega) _⟩
 rw [if_pos hc] at ho
 have hgE:=chk_goodE hc
 have hg2:=hgE.simple
 have hc2:(chk g != 0)=false:=by simpa using hc
 have e1:¬ st.next=s1.next:=by omega
 (repeat' (first | refine qS ?_ | refine qB ?_ | (refine qK ?_;simp only [ak,reduceIte]) | (refine qC ?_;simp [hc2,hG1,e1]) | ((first | (refine w_e [] ?_;intro J hJ;simp only []) | (refine e_go ?_));simp [hc2,hG1,e1];(refine hJ _ _ ?_;clear hJ J;simp only [ak,reduceIte]))))
 refine awp_range 27 26 28 47 (g.es.length) (fun j fr st2=>fr 1=.pt st.next 0∧fr 2=.pt (st.next+1) 0∧fr 4=.mp s1.next∧fr 25=.sl 0 g.es.length (eds g.es)∧Keeps s1 st2∧∃ A,MRow true [.u32,.u32] 38 3 A s1.next s1.next st2∧BunA (g.es.take j) A) ?_ ?_ ?_
 ·exact ⟨by simp,by simp,by simp,by simp,Keeps.new _ _,[],⟨by simp [rmL],by simp,by simp,by simp,by simp⟩,⟨by simp,by simp⟩⟩
 ·rintro j fr s hlt ⟨f1,f2,f4,f25,hk,A,hA,hB⟩ fi fn JO hJO
  have hd:=eds_drop g.es j hlt
  have hk3:j * 3 < g.es.length * 3:=by omega
  have htk:g.es.take (j+1)=g.es.take j++[g.es.getD j ed0]:=by rw [getE_lt _ _ hlt];exact List.take_succ_eq_append_getElem hlt
  have hget:=hB.get hA.nd (prE (g.es.getD j ed0))
  have hadd:=hB.add hA.nd (g.es.getD j ed0)
  rw [← htk] at hadd
  have hEl:(g.es.take j).length≤200:=by rw [List.length_take];omega
  generalize g.es.take j=E at *
  generalize g.es.take (j+1)=E' at *
  generalize g.es.getD j ed0=x at *
  obtain ⟨d,a,b⟩:=x
  have hbl:(bunP E (prP a b)).length≤200:=Nat.le_trans (List.length_filter_le _ _) hEl
  simp only [prE,prP,pk] at hget hadd hbl hd
  have hM:=hA.map
  have hMl:=rmL_get [min a b,max a b] A
  have c0:¬ s1.next=s.next:=by have:=hA.mlt;omega
  (repeat' (first | refine qS ?_ | (refine w_e [] ?_;intro J hJ;simp only [];simp [f25,fi,fn,hlt,hd,hel,hk3];(refine hJ _ _ ?_;clear hJ J;simp only [ak,reduceIte]))))
  refine awp_cutB (fun f s'=>f 1=.pt st.next 0∧f 2=.pt (st.next+1) 0∧f 4=.mp s1.next∧f 25=.sl 0 g.es.length (eds g.es)∧f 26=i g.es.length∧f 27=i j∧Keeps s1 s'∧∃ A,MRow true [.u32,.u32] 38 3 A s1.next s1.next s'∧BunA E' A) ?_ ?_
  rotate_left
  ·rintro fr s' ⟨f1,f2,f4,f25,fn,fi,hk',hA'⟩
   exact hJO _ _ fi fn ⟨by simp [f1],by simp [f2],by simp [f4],by simp [f25],hk',hA'⟩
  have hx0:¬ s.next=s1.next:=fun e=>c0 e.symm
  have x1:¬ s1.next=s.next+1:=by have:=hA.mlt;omega
  have x2:¬ s.next+1=s1.next:=fun e=>x1 e.symm
  have x3:¬ s1.next=s.next+1+1:=by have:=hA.mlt;omega
  have x4:¬ s.next+1+1=s1.next:=fun e=>x3 e.symm
  rcases hget with ⟨hnil,hgn⟩ | ⟨t,hgs⟩
  ·rw [hgn] at hMl
   simp only [Option.map_none] at hMl
   have hadd:=hadd (s.next+1+1)
   rw [hnil] at hadd
   simp only [eds,List.flatMap_nil,List.nil_append,List.length_nil,Nat.zero_add] at hadd
   have hfin:∀ f:Frm,f 1=.pt st.next 0→f 2=.pt (st.next+1) 0→f 4=.mp s1.next→f 25=.sl 0 g.es.length (eds g.es)→f 26=i g.es.length→f 27=i j→(f 1=.pt st.next 0∧f 2=.pt (st.next+1) 0∧f 4=.mp s1.next∧f 25=.sl 0 g.es.length (eds g.es)∧f 26=i g.es.length∧f 27=i j∧Keeps s1 ((((s.new (.box 38 3 [u d,u a,u b])).new (.own 38 3 1)).new (.own 38 3 1)).set s1.next (.map true [.u32,.u32] (mset (rmL A) [min a b,max a b] (.sl (s.next+1+1) 1 [u d,u a,u b]))))∧∃ A',MRow true [.u32,.u32] 38 3 A' s1.next s1.next ((((s.new (.box 38 3 [u d,u a,u b])).new (.own 38 3 1)).new (.own 38 3 1)).set s1.next (.map true [.u32,.u32] (mset (rmL A) [min a b,max a b] (.sl (s.next+1+1) 1 [u d,u a,u b]))))∧BunA E' A'):=fun f q1 q2 q3 q4 q5 q6=>
    ⟨q1,q2,q3,q4,q5,q6,(((hk.trans (Keeps.new _ _)).trans (Keeps.new _ _)).trans (Keeps.new _ _)).set (Nat.le_refl _) _,_,hA.put (k:=[min a b,max a b]) (t:=s.next+1+1) (n:=1) (c:=[u d,u a,u b]) ⟨by omega,by simp⟩ (by simp;omega) hk.next (by omega) (by simp [rmV]) (by simp [x4]) (fun l hl hlm _=>by simp [show ¬ l=s.next by omega,show ¬ l=s.next+1 by omega,show ¬ l=s.next+1+1 by omega,hlm]),hadd⟩
   refine w_a [] [s1.next,s.next] ?_;intro J hJ
   refine a_pre 6 [(0,true),(1,true),(2,true),(3,true),(4,true),(6,true),(7,true),(8,true),(9,true),(10,true),(13,true)] ?_
   simp [f4,c0,hx0,hM,hMl,x1,x2,x3,x4]
   refine a_alt2 5 (5,true) (14,true) ?_ ?_
   ·simp [f4,c0,hx0,hM,hMl,x1,x2,x3,x4]
    refine qD (pair a b _) (by simp) ?_;rintro r s5 ⟨rfl,e5⟩
    rw [e5];clear e5 s5
    refine ⟨fun h=>by first | (cases h;done) | exact fun _ _=>rfl | simp [f4,c0,hx0,hM,hMl,x1,x2,x3,x4],?_⟩
    refine a_alt2 4 (11,true) (14,true) ?_ ?_
    ·simp [f4,c0,hx0,hM,hMl,x1,x2,x3,x4]
     refine qD (pair a b _) (by simp) ?_;rintro r s5 ⟨rfl,e5⟩
     rw [e5];clear e5 s5
     refine ⟨fun h=>by first | (cases h;done) | exact fun _ _=>rfl | simp [f4,c0,hx0,hM,hMl,x1,x2,x3,x4],?_⟩
     refine a_pre 0 [(12,true),(14,true),(15,true),(16,false)] ?_
     simp [f4,c0,hx0,hM,hMl,x1,x2,x3,x4]
     refine ⟨by unfold maxLen;omega,aany_end (hJ _ _ ?_)⟩
     simp only [ak]
     refine ⟨trivial,hfin _ ?_ ?_ ?_ ?_ ?_ ?_⟩<;>simp [f1,f2,f4,f25,fn,fi]
    ·simp [f4,c0,hx0,hM,hMl,x1,x2,x3,x4]
     refine a_pre 0 [(11,true),(12,true),(15,true),(16,false)] ?_
     simp [f4,c0,hx0,hM,hMl,x1,x2,x3,x4]
     refine qD (pair a b _) (by simp) ?_;rintro r s5 ⟨rfl,e5⟩
     rw [e5];clear e5 s5
     refine ⟨fun h=>by first | (cases h;done) | exact fun _ _=>rfl | simp [f4,c0,hx0,hM,hMl,x1,x2,x3,x4],?_⟩
     simp [f4,c0,hx0,hM,hMl,x1,x2,x3,x4]
     refine ⟨by unfold maxLen;omega,aany_end (hJ _ _ ?_)⟩
     simp only [ak]
     refine ⟨trivial,hfin _ ?_ ?_ ?_ ?_ ?_ ?_⟩<;>simp [f1,f2,f4,f25,fn,fi]
   ·simp [f4,c0,hx0,hM,hMl,x1,x2,x3,x4]
    refine a_pre 0 [(5,true),(11,true),(12,true),(15,true),(16,false)] ?_
    simp [f4,c0,hx0,hM,hMl,x1,x2,x3,x4]
    refine qD (pair a b _) (by simp) ?_;rintro r s5 ⟨rfl,e5⟩
    rw [e5];clear e5 s5
    refine ⟨fun h=>by first | (cases h;done) | exact fun _ _=>rfl | simp [f4,c0,hx0,hM,hMl,x1,x2,x3,x4],?_⟩
    simp [f4,c0,hx0,hM,hMl,x1,x2,x3,x4]
    refine qD (pair a b _) (by simp) ?_;rintro r s5 ⟨rfl,e5⟩
    rw [e5];clear e5 s5
    refine ⟨fun h=>by first | (cases h;done) | exact fun _ _=>rfl | simp [f4,c0,hx0,hM,hMl,x1,x2,x3,x4],?_⟩
    simp [f4,c0,hx0,hM,hMl,x1,x2,x3,x4]
    refine ⟨by unfold maxLen;omega,aany_end (hJ _ _ ?_)⟩
    simp only [ak]
    refine ⟨trivial,hfin _ ?_ ?_ ?_ ?_ ?_ ?_⟩<;>simp [f1,f2,f4,f25,fn,fi]
  ·rw [hgs] at hMl
   simp only [Option.map_some] at hMl
   unfold rmV at hMl
   simp only at hMl
   obtain ⟨k1,k2,k3,k4⟩:=hA.tok _ (getM_mem hgs)
   simp only at k1 k2 k3 k4
   have y1:¬ t=s.next:=by omega
   have y2:¬ t=s.next+1:=by omega
   have y3:¬ s.next=t:=by omega
   have y4:¬ s.next+1=t:=by omega
   have y5:¬ s1.next=t:=fun e=>by rw [← e,hM] at k4;cases k4
   have y6:¬ t=s1.next:=fun e=>y5 e.symm
   have hsm:(List.map (fun _:Ed=>3) (bunP E (min a b,max a b))).sum=(bunP E (min a b,max a b)).length * 3:=sum3P _
   have hadd:=hadd (s.next+1+1)
   have hbe:=eds_length (bunP E (min a b,max a b))
   have hfin:∀ f:Frm,f 1=.pt st.next 0→f 2=.pt (st.next+1) 0→f 4=.mp s1.next→f 25=.sl 0 g.es.length (eds g.es)→f 26=i g.es.length→f 27=i j→(f 1=.pt st.next 0∧f 2=.pt (st.next+1) 0∧f 4=.mp s1.next∧f 25=.sl 0 g.es.length (eds g.es)∧f 26=i g.es.length∧f 27=i j∧Keeps s1 (((((s.new (.box 38 3 [u d,u a,u b])).new (.own 38 3 1)).set t .dead).new (.own 38 3 ((bunP E (min a b,max a b)).length+1))).set s1.next (.map true [.u32,.u32] (mset (rmL A) [min a b,max a b] (.sl (s.next+1+1) ((bunP E (min a b,max a b)).length+1) (eds (bunP E (min a b,max a b))++[u d,u a,u b])))))∧∃ A',MRow true [.u32,.u32] 38 3 A' s1.next s1.next (((((s.new (.box 38 3 [u d,u a,u b])).new (.own 38 3 1)).set t .dead).new (.own 38 3 ((bunP E (min a b,max a b)).length+1))).set s1.next (.map true [.u32,.u32] (mset (rmL A) [min a b,max a b] (.sl (s.next+1+1) ((bunP E (min a b,max a b)).length+1) (eds (bunP E (min a b,max a b))++[u d,u a,u b])))))∧BunA E' A'):=fun f q1 q2 q3 q4 q5 q6=>
    ⟨q1,q2,q3,q4,q5,q6,((((hk.trans (Keeps.new _ _)).trans (Keeps.new _ _)).set k2 _).trans (Keeps.new _ _)).set (Nat.le_refl _) _,_,hA.put (k:=[min a b,max a b]) (t:=s.next+1+1) (n:=(bunP E (min a b,max a b)).length+1) (c:=eds (bunP E (min a b,max a b))++[u d,u a,u b]) ⟨by omega,by simp⟩ (by simp;omega) hk.next (by omega) (by simp [rmV]) (by simp [x4]) (fun l hl hlm hx=>by
      have:=hx _ hgs
      simp only at this
      simp [show ¬ l=s.next by omega,show ¬ l=s.next+1 by omega,show ¬ l=s.next+1+1 by omega,hlm,this]),hadd⟩
   refine w_a [] [s1.next,s.next] ?_;intro J hJ
   refine a_pre 6 [(0,true),(1,true),(2,true),(3,true),(4,true),(6,true),(7,true),(8,true),(9,true),(10,true),(13,true)] ?_
   simp [f4,c0,hx0,hM,hMl,x1,x2,x3,x4,y1,y2,y3,y4,y5,y6,k4,k1,hbe,hsm]
   refine a_alt2 5 (5,true) (14,true) ?_ ?_
   ·simp [f4,c0,hx0,hM,hMl,x1,x2,x3,x4,y1,y2,y3,y4,y5,y6,k4,k1,hbe,hsm]
    refine qD (pair a b _) (by simp) ?_;rintro r s5 ⟨rfl,e5⟩
    rw [e5];clear e5 s5
    refine ⟨fun h=>by first | (cases h;done) | exact fun _ _=>rfl | simp [f4,c0,hx0,hM,hMl,x1,x2,x3,x4,y1,y2,y3,y4,y5,y6,k4,k1,hbe,hsm],?_⟩
    refine a_alt2 4 (11,true) (14,true) ?_ ?_
    ·simp [f4,c0,hx0,hM,hMl,x1,x2,x3,x4,y1,y2,y3,y4,y5,y6,k4,k1,hbe,hsm]
     refine qD (pair a b _) (by simp) ?_;rintro r s5 ⟨rfl,e5⟩
     rw [e5];clear e5 s5
     refine ⟨fun h=>by first | (cases h;done) | exact fun _ _=>rfl | simp [f4,c0,hx0,hM,hMl,x1,x2,x3,x4,y1,y2,y3,y4,y5,y6,k4,k1,hbe,hsm],?_⟩
     refine a_pre 0 [(12,true),(14,true),(15,true),(16,false)] ?_
     simp [f4,c0,hx0,hM,hMl,x1,x2,x3,x4,y1,y2,y3,y4,y5,y6,k4,k1,hbe,hsm]
     refine ⟨by unfold maxLen;omega,aany_end (hJ _ _ ?_)⟩
     simp only [ak]
     refine ⟨trivial,hfin _ ?_ ?_ ?_ ?_ ?_ ?_⟩<;>simp [f1,f2,f4,f25,fn,fi]
    ·simp [f4,c0,hx0,hM,hMl,x1,x2,x3,x4,y1,y2,y3,y4,y5,y6,k4,k1,hbe,hsm]
     refine a_pre 0 [(11,true),(12,true),(15,true),(16,false)] ?_
     simp [f4,c0,hx0,hM,hMl,x1,x2,x3,x4,y1,y2,y3,y4,y5,y6,k4,k1,hbe,hsm]
     refine qD (pair a b _) (by simp) ?_;rintro r s5 ⟨rfl,e5⟩
     rw [e5];clear e5 s5
     refine ⟨fun h=>by first | (cases h;done) | exact fun _ _=>rfl | simp [f4,c0,hx0,hM,hMl,x1,x2,x3,x4,y1,y2,y3,y4,y5,y6,k4,k1,hbe,hsm],?_⟩
     simp [f4,c0,hx0,hM,hMl,x1,x2,x3,x4,y1,y2,y3,y4,y5,y6,k4,k1,hbe,hsm]
     refine ⟨by unfold maxLen;omega,aany_end (hJ _ _ ?_)⟩
     simp only [ak]
     refine ⟨trivial,hfin _ ?_ ?_ ?_ ?_ ?_ ?_⟩<;>simp [f1,f2,f4,f25,fn,fi]
   ·simp [f4,c0,hx0,hM,hMl,x1,x2,x3,x4,y1,y2,y3,y4,y5,y6,k4,k1,hbe,hsm]
    refine a_pre 0 [(5,true),(11,true),(12,true),(15,true),(16,false)] ?_
    simp [f4,c0,hx0,hM,hMl,x1,x2,x3,x4,y1,y2,y3,y4,y5,y6,k4,k1,hbe,hsm]
    refine qD (pair a b _) (by simp) ?_;rintro r s5 ⟨rfl,e5⟩
    rw [e5];clear e5 s5
    refine ⟨fun h=>by first | (cases h;done) | exact fun _ _=>rfl | simp [f4,c0,hx0,hM,hMl,x1,x2,x3,x4,y1,y2,y3,y4,y5,y6,k4,k1,hbe,hsm],?_⟩
    simp [f4,c0,hx0,hM,hMl,x1,x2,x3,x4,y1,y2,y3,y4,y5,y6,k4,k1,hbe,hsm]
    refine qD (pair a b _) (by simp) ?_;rintro r s5 ⟨rfl,e5⟩
    rw [e5];clear e5 s5
    refine ⟨fun h=>by first | (cases h;done) | exact fun _ _=>rfl | simp [f4,c0,hx0,hM,hMl,x1,x2,x3,x4,y1,y2,y3,y4,y5,y6,k4,k1,hbe,hsm],?_⟩
    simp [f4,c0,hx0,hM,hMl,x1,x2,x3,x4,y1,y2,y3,y4,y5,y6,k4,k1,hbe,hsm]
    refine ⟨by unfold maxLen;omega,aany_end (hJ _ _ ?_)⟩
    simp only [ak]
    refine ⟨trivial,hfin _ ?_ ?_ ?_ ?_ ?_ ?_⟩<;>simp [f1,f2,f4,f25,fn,fi]
 ·rintro fr s ⟨f1,f2,f4,f25,hk,A,hA,hB⟩
  rw [List.take_length] at hB
  have hkn:=hk.next
  have hGs:s.H st.next=.box 35 2 (grL g):=(hk.H _ (by omega)).trans hG1
  have hOs:s.H (st.next+1)=.box 46 3 [.nil,.nil,.nil]:=(hk.H _ (by omega)).trans hO1
  (repeat' (first | refine qS ?_ | (refine w_e [] ?_;intro J hJ;simp only [];simp [f1,hGs])))
  refine qE (Simple g s (by omega) (by omega) (by omega)) (by simp) ?_;rintro r s2 ⟨rfl,hk2⟩
  have hkn2:=hk2.next
  have hA2:=hA.keep hk2
  have hK2:=hk.trans hk2
  have hsl:=sE_len g.es
  have hO2:=(hk2.H _ (by omega)).trans hOs
  have hG2:=(hk2.H _ (by omega)).trans hGs
  clear hk2 hOs hGs hA hk
  (repeat' (first | refine qS ?_ | ((first | (refine w_e [] ?_;intro J hJ;simp only []) | (refine e_go ?_));simp [];(try (refine hJ _ _ ?_;clear hJ J;simp only [ak,reduceIte])))))
  have hbk:=blksG_len g
  have hbl:bkL (sE g.es) (ledB (sE g.es))=edsLs (blksG g):=by simp [bkL,edsLs,blksG]
  have hbn:(ledB (sE g.es)).length=(blksG g).length:=by simp [blksG]
  have hblk:=Blocks ⟨g.vs,sE g.es⟩ hg2 ((s2.new (.box 35 2 [.sl 0 g.vs.length (us g.vs),.sl 0 (sE g.es).length (eds (sE g.es))])).new (.map false [.u32] [])) (Nat.le_trans (chk_good hc).2.2.1 (by decide)) (by simp only;omega)
  simp only [] at hblk
  rw [hbl,hbn] at hblk
  refine qE hblk (by simp [grL]) ?_;rintro r s3 ⟨rfl,e3⟩
  rw [e3];clear e3 s3 hblk
  have hk3:=Keeps.new s2 (.box 35 2 [.sl 0 g.vs.length (us g.vs),.sl 0 (sE g.es).length (eds (sE g.es))])
  have hn3:(s2.new (.box 35 2 [.sl 0 g.vs.length (us g.vs),.sl 0 (sE g.es).length (eds (sE g.es))])).next=s2.next+1:=rfl
  rw [← hn3]
  generalize s2.new (.box 35 2 [.sl 0 g.vs.length (us g.vs),.sl 0 (sE g.es).length (eds (sE g.es))])=s3 at *
  have hA3:=hA2.keep hk3
  have hK3:=hK2.trans hk3
  have hO3:=(hk3.H _ (by omega)).trans hO2
  have hG3:=(hk3.H _ (by omega)).trans hG2
  clear hA2 hK2 hO2 hG2 hk3
  unfold embedF at ho
  obtain ⟨oT,hoT,ho⟩:=Option.bind_eq_some_iff.1 ho
  have hKt:=hK1.trans hK3
  (repeat' (first | refine qB ?_ | (refine e_go ?_;simp [];(refine hJ _ _ ?_;clear hJ J;simp only [ak,reduceIte]))))
  refine awp_range 57 56 58 104 ((blksG g).length) (fun j fr st2=>fr 1=.pt st.next 0∧fr 2=.pt (st.next+1) 0∧fr 4=.mp s1.next∧fr 9=.mp s3.next∧fr 55=.sl 0 (blksG g).length (edsLs (blksG g))∧Keeps s3 st2∧∃ T A2,embF g ((blksG g).drop j) T=some oT∧MRow false [.u32] 26 1 A2 s3.next s3.next st2∧RowA T A2∧totT T≤100000) ?_ ?_ ?_
  ·exact ⟨by simp [f1],by simp [f2],by simp [f4],by simp,by simp,Keeps.new _ _,[],[],by simpa using hoT,⟨by simp [rmL],by simp,by simp,by simp,by simp⟩,rfl,by simp [totT]⟩
  ·clear f1 f2 f4 f25 hoT fr
   rintro j0 fr s4 hlt ⟨f1,f2,f4,f9,f55,hk4,T,A2,hE,hT,hR,htot⟩ fi fn JO hJO
   have hd:=edsLs_drop (blksG g) j0 hlt
   have hdr:(blksG g).drop j0=(blksG g).getD j0 []::(blksG g).drop (j0+1):=by
    rw [List.drop_eq_getElem_cons hlt,List.getD_eq_getElem?_getD,List.getElem?_eq_getElem hlt];rfl
   obtain ⟨hdre,hsub⟩:=blksG_dr hgE (l:=(blksG g).getD j0 []) (by rw [List.getD_eq_getElem?_getD,List.getElem?_eq_getElem hlt];exact List.getElem_mem _)
   rw [hdr] at hE
   unfold embF at hE
   obtain ⟨oD,hD,hE⟩:=Option.bind_eq_some_iff.1 hE
   generalize (blksG g).getD j0 []=l at *
   have hkn4:=hk4.next
   have hM24:=hT.mlt.2
   have hel4:(edsLs (blksG g)).length=(blksG g).length:=by simp [edsLs]
   (repeat' (first | refine qS ?_ | (refine w_e [] ?_;intro J hJ;simp only [];simp [f55,fi,fn,hlt,hd,hel4];(try (refine hJ _ _ ?_;clear hJ J;simp only [ak,reduceIte])))))
   refine qE (sDraw hdre hD s4 (by omega)) (by simp) ?_;rintro r s5 ⟨rfl,hk5⟩
   have hO5:=(hk5.H (st.next+1) (by omega)).trans ((hk4.H (st.next+1) (by omega)).trans hO3)
   have hk45:=hk4.trans hk5
   cases oD with
   | none=>
     simp only at hE
     obtain rfl:none=oT:=Option.some.inj hE
     simp only at ho
     obtain rfl:none=o:=Option.some.inj ho
     unfold drR
     (repeat' (first | refine qS ?_ | (refine qR ?_;simp only [ak,reduceIte];simp [f2,hO5]) | (refine qC ?_;simp [f2,hO5]) | ((first | (refine w_e [] ?_;intro J hJ;simp only []) | (refine e_go ?_));simp [f2,hO5];(refine hJ _ _ ?_;clear hJ J;simp only [ak,reduceIte]))))
     exact ⟨by simp [embR,z0,z0L],(hKt.trans hk45).set (by omega) _⟩
   | some F=>
     simp only at hE
     split at hE
     case isFalse=>cases hE
     rename_i hok
     obtain ⟨o1,o2,o3,o4,o5⟩:=hok
     unfold drR
     (repeat' (first | refine qS ?_ | (refine qK ?_;simp only [ak,reduceIte]) | (refine qC ?_;simp [f2,hO5]) | ((first | (refine w_e [] ?_;intro J hJ;simp only []) | (refine e_go ?_));simp [f2,hO5];(try (refine hJ _ _ ?_;clear hJ J;simp only [ak,reduceIte])))))
     refine qE (sAroundF F s5 o1 o2) (by simp) ?_;rintro r s6 ⟨M,loc,rfl,hM⟩
     have hMk:=hM.kp
     have hnd:=hM.nd
     have hkeyN:=keyN_ouL (aroundF F) loc
     (repeat' (first | refine qS ?_ | ((first | (refine w_e [] ?_;intro J hJ;simp only []) | (refine e_go ?_));simp [];(try (refine hJ _ _ ?_;clear hJ J;simp only [ak,reduceIte])))))
     refine qE (KeysM M _) (by simp) ?_;rintro r s7 ⟨rfl,e7⟩
     rw [e7];clear e7 s7
     have hM7:(s6.new (.box 28 1 [.mp M])).H M=.map false [.u32] (ouL (aroundF F) loc):=by rw [new_H,if_neg (by have:=hM.olt;omega)];exact hM.out
     (repeat' (refine e_go ?_;simp []))
     refine qE (SortedM M s6.next (ouL (aroundF F) loc) ((aroundF F).map (·.1)) _ (by simpa [ouL] using o3) (by simp) hM7 hkeyN hnd) (by simp) ?_;rintro r s8 ⟨rfl,hk8⟩
     have hk68:=(Keeps.new s6 _).trans hk8
     have hn5:=hk5.next
     have hn6:=hMk.next
     have hn8:=hk68.next
     have hout:s8.H M=.map false [.u32] (ouL (aroundF F) loc):=(hk68.H M hM.olt.2).trans hM.out
     have hinn:∀ a∈aroundF F,s8.H (loc a.1)=.map false [.u32] (inL a.2)∧s5.next≤loc a.1∧loc a.1 < s8.next:=fun a ha=>by
      obtain ⟨q1,q2,q3⟩:=hM.inn a ha
      exact ⟨(hk68.H _ q3).trans q1,q2.1,by omega⟩
     have hMo:s5.next≤M∧M < s8.next:=⟨hM.olt.1,by have:=hM.olt.2;omega⟩
     have hk48:=(hk5.trans hMk).trans hk68
     have hT8:=hT.keep hk48
     have hk38:=hk4.trans hk48
     have hTW:∀ a∈A2,a.2.1 < s5.next∨s8.next≤a.2.1:=fun a ha=>.inl (by have:=(hT.tok a ha).2.2.1;omega)
     have hne:=aroundF_ne F
     clear hM hM7 hk68 hMk hk48 hT hk8 hk5 hO5 hk45 hkeyN
     unfold nextT at hE o5
     generalize aroundF F=AF at *
     have hKm:=fun x=>srtF_mem x (AF.map (·.1))
     have hKl:(srtF (AF.map (·.1))).length≤1000:=Nat.le_trans (srtF_len _) (by rw [List.length_map];exact o3)
     generalize srtF (AF.map (·.1))=K at *
     (repeat' (first | refine qB ?_ | (refine e_go ?_;simp [];(refine hJ _ _ ?_;clear hJ J;simp only [ak,reduceIte]))))
     refine awp_range 75 74 76 103 (K.length) (fun j fr st2=>(fr 1=.pt st.next 0∧fr 2=.pt (st.next+1) 0∧fr 4=.mp s1.next∧fr 9=.mp s3.next∧fr 55=.sl 0 (blksG g).length (edsLs (blksG g))∧fr 56=i (blksG g).length∧fr 57=i j0∧fr 14=.mp M∧fr 73=.sl 0 K.length (us K))∧TI s1.next s3.next s5.next s3 s8 (turnA g AF (K.take j) T) st2) ?_ ?_ ?_
     ·exact ⟨⟨by simp [f1],by simp [f2],by simp [f4],by simp [f9],by simp [f55],by simp [fn],by simp [fi],by simp,by simp⟩,hk38,Nat.le_refl _,fun l _ _=>rfl,A2,hT8,hR,hTW⟩
     ·clear f1 f2 f4 f9 f55 fn fi fr hT8 hR hTW
      rintro k1 fr s9 hlt1 ⟨⟨f1,f2,f4,f9,f55,f56,f57,f14,f73⟩,hTI⟩ fi fn J1 hJ1
      have hd1:=qG K k1 hlt1
      have hsn1:turnA g AF (K.take (k1+1)) T=turnV g (K.getD k1 0) (roundF (getA (K.getD k1 0) AF)) (turnA g AF (K.take k1) T):=by
       have h1:K.take (k1+1)=K.take k1++[K[k1]]:=List.take_succ_eq_append_getElem hlt1
       unfold turnA
       rw [h1,List.foldl_append,getD_lt _ _ hlt1];rfl
      have htot1:totT (turnA g AF (K.take (k1+1)) T)≤100000:=by
       have h1:=turnA_tot g AF (K.drop (k1+1)) (turnA g AF (K.take (k1+1)) T)
       rw [← turnA_split] at h1
       omega
      have hvK:K.getD k1 0∈AF.map (·.1):=(hKm _).1 (by rw [getD_lt _ _ hlt1];exact List.getElem_mem _)
      have hvA:=getA_mem hvK
      have hgM:=ouL_get AF loc (K.getD k1 0)
      rw [if_pos hvK] at hgM
      rw [hsn1] at htot1 hJ1
      clear hsn1
      generalize turnA g AF (K.take k1) T=Tk at *
      generalize K.getD k1 0=v at *
      obtain ⟨hI1,hI2,hI3⟩:=hinn _ hvA
      have hPl:=o4 _ hvA
      have hP0:=hne _ hvA
      simp only at hI1 hI2 hI3 hPl hP0
      have hLl:=roundF_len (getA v AF)
      generalize getA v AF=P at *
      have hTI':=hTI
      obtain ⟨hk9,hn9,hW,A9,hT9,hR9,hTW9⟩:=hTI'
      have hM9:=(hW M hMo.1 hMo.2).trans hout
      have hI9:=(hW _ hI2 hI3).trans hI1
      clear hT9 hR9 hTW9 hW
      generalize loc v=lv at *
      (repeat' (first | refine qS ?_ | (refine w_e [] ?_;intro J hJ;simp only [];simp [f73,fi,fn,hlt1,hd1,f14,hM9,hgM];(try (refine hJ _ _ ?_;clear hJ J;simp only [ak,reduceIte])))))
      refine qE (sRound P lv s9 hP0 (by omega) hI9 (by omega)) (by simp) ?_;rintro r s10 ⟨rfl,e10⟩
      rw [e10];clear e10 s10
      have hLn:(roundF P).length≤1000:=by omega
      generalize roundF P=L at *
      (repeat' (first | refine qB ?_ | (refine e_go ?_;simp [];(refine hJ _ _ ?_;clear hJ J;simp only [ak,reduceIte]))))
      refine awp_range 84 83 85 102 (L.length) (fun j fr st2=>(fr 1=.pt st.next 0∧fr 2=.pt (st.next+1) 0∧fr 4=.mp s1.next∧fr 9=.mp s3.next∧fr 55=.sl 0 (blksG g).length (edsLs (blksG g))∧fr 56=i (blksG g).length∧fr 57=i j0∧fr 14=.mp M∧fr 73=.sl 0 K.length (us K))∧(fr 74=i K.length∧fr 75=i k1∧fr 16=u v∧fr 82=.sl 0 L.length (us L))∧TI s1.next s3.next s5.next s3 s8 (turnV g v (L.take j) Tk) st2) ?_ ?_ ?_
      ·exact ⟨⟨by simp [f1],by simp [f2],by simp [f4],by simp [f9],by simp [f55],by simp [f56],by simp [f57],by simp [f14],by simp [f73]⟩,⟨by simp [fn],by simp [fi],by simp,by simp⟩,hTI⟩
      ·clear f1 f2 f4 f9 f55 f56 f57 f14 f73 fi fn fr hTI hk9 hn9 hM9 hI9 s9
       rintro k2 fr s9 hlt2 ⟨⟨f1,f2,f4,f9,f55,f56,f57,f14,f73⟩,⟨f74,f75,f16,f82⟩,hk9,hn9,hW,A9,hT9,hR9,hTW9⟩ fi fn J2 hJ2
       have hd2:=qG L k2 hlt2
       have hsn2:turnV g v (L.take (k2+1)) Tk=addQ v (dartsF (bunF g v (L.getD k2 0)) v (L.getD k2 0)) (turnV g v (L.take k2) Tk):=by
        have h1:L.take (k2+1)=L.take k2++[L[k2]]:=List.take_succ_eq_append_getElem hlt2
        unfold turnV
        rw [h1,List.foldl_append,getD_lt _ _ hlt2];rfl
       have htot2:totT (turnV g v (L.take (k2+1)) Tk)≤100000:=by
        have h1:=turnV_tot g v (L.drop (k2+1)) (turnV g v (L.take (k2+1)) Tk)
        rw [← turnV_split] at h1
        omega
       rw [hsn2] at htot2 hJ2
       clear hsn2
       generalize turnV g v (L.take k2) Tk=Tq at *
       generalize L.getD k2 0=x at *
       have hbun:=hB.get hA3.nd (prP v x)
       have hMB:s9.H s1.next=.map true [.u32,.u32] (rmL A):=(hk9.H _ hA3.mlt.2).trans hA3.map
       obtain ⟨X,hX,tX,hXn⟩:∃ X,(mget (rmL A) [min v x,max v x]).getD .nil=X∧∃ t,norm X=.sl t (bunF g v x).length (eds (bunF g v x)):=by
        refine ⟨_,rfl,?_⟩
        rw [rmL_get]
        rcases hbun with ⟨h1,h2⟩ | ⟨t,h2⟩
        ·refine ⟨0,?_⟩
         simp only [prP,pk] at h2
         rw [h2]
         unfold bunF
         rw [h1];rfl
        ·refine ⟨t,?_⟩
         simp only [prP,pk] at h2
         rw [h2];rfl
       have hBl:(bunF g v x).length≤200:=Nat.le_trans (List.length_filter_le _ _) (Nat.le_trans he (by omega))
       have hBp:∀ e∈bunF g v x,1≤e.id∧e.id≤1048576:=fun e h=>hgE.pos e (List.mem_filter.1 h).1
       have hdarts:=fun st=>sDarts (bunF g v x) v x tX st (by omega) hBp
       generalize bunF g v x=B at *
       have hmg:=rmL_get [v] A9
       have hadd:=hR9.add (v:=v) (ds:=dartsF B v x)
       have htq:=getT_tot v (addQ v (dartsF B v x) Tq)
       have hgq:=hR9.get (v:=v)
       generalize hDD:dartsF B v x=D at *
       have hMT:=hT9.map
       have z1:¬ s1.next=s3.next:=by have:=hA3.mlt;omega
       have z2:¬ s3.next=s1.next:=fun e=>z1 e.symm
       have hn39:=hk9.next
       have hDt:=addQ_tot v D Tq
       have hDt2:=getT_tot v Tq
       have hD1:D.length * 4≤140737488355328:=by omega
       have hD2:D.length≤maxLen:=by unfold maxLen;omega
       have hm2:=hT9.mlt.2
       have z3:¬ s3.next=s9.next:=by omega
       have z4:¬ s9.next=s3.next:=by omega
       have z5:¬ s1.next=s9.next:=by have:=hA3.mlt;omega
       have h35:s3.next < s5.next:=by omega
       (repeat' (first | refine qS ?_ | (refine w_e [] ?_;intro J hJ;simp only [];simp [f82,fi,fn,hlt2,hd2];(refine hJ _ _ ?_;clear hJ J;simp only [ak,reduceIte]))))
       (refine w_s [] [s1.next,s3.next] [(0,true),(1,true),(2,true),(3,true),(4,true),(5,true),(6,true),(7,true),(10,true),(11,true),(8,true),(9,true),(12,true),(13,true),(14,false)] ?_;intro J hJ;simp [f4,f9,f16,hMT,hMB])
       refine qD (pair v x _) (by simp) ?_;rintro r s10 ⟨rfl,e10⟩
       rw [e10];clear e10 s10
       refine ⟨fun h=>by first | (cases h;done) | exact fun _ _=>rfl | simp,?_⟩
       (refine d_go ?_;simp [hMT,hMB,hX])
       refine qD (hdarts _) (by simp;exact hXn) ?_;rintro r s10 ⟨rfl,e10⟩
       rw [e10];clear e10 s10
       refine ⟨fun h=>by first | (cases h;done) | exact fun _ _=>rfl | simp,?_⟩
       rcases hgq with ⟨hq1,hq2⟩ | ⟨t,hq2⟩
       ·rw [hq2] at hmg
        simp only [Option.map_none] at hmg
        (refine d_go ?_;simp [hMT,hMB,hX,hmg,hD1,hD2,z3,z4,z5];(refine hJ _ _ ?_;clear hJ J;simp only [ak,reduceIte]))
        skip
        have hadd:=hadd s9.next
        rw [hq1] at hadd
        simp only [us,List.map_nil,List.nil_append,List.length_nil,Nat.zero_add] at hadd
        refine hJ2 _ _ (by simp [fi]) (by simp [fn]) ⟨⟨by simp [f1],by simp [f2],by simp [f4],by simp [f9],by simp [f55],by simp [f56],by simp [f57],by simp [f14],by simp [f73]⟩,⟨by simp [f74],by simp [f75],by simp [f16],by simp [f82]⟩,(hk9.trans (Keeps.new _ _)).set (Nat.le_refl _) _,by simp;omega,fun l q1 q2=>?_,_,hT9.put (k:=[v]) (t:=s9.next) (n:=D.length) (c:=us D) ⟨Nat.le_refl _,by simp⟩ (by simp) hn39 (by omega) (by simp [rmV]) (by simp [z4]) (fun l hl hlm _=>by simp [show ¬ l=s9.next by omega,hlm]),hadd,fun y hy=>?_⟩
        ·rw [set_H,if_neg (by omega),new_H,if_neg (by omega)];exact hW l q1 q2
        ·rcases putM_mem hT9.nd y hy with rfl | ⟨hy,_⟩
         ·exact .inr hn9
         ·exact hTW9 y hy
       ·rw [hq2] at hmg
        simp only [Option.map_some] at hmg
        unfold rmV at hmg
        simp only at hmg
        obtain ⟨g1,g2,g3,g4⟩:=hT9.tok _ (getM_mem hq2)
        simp only at g1 g2 g3 g4
        have y5:¬ s3.next=t:=fun e=>by rw [← e,hMT] at g4;cases g4
        have y6:¬ t=s3.next:=fun e=>y5 e.symm
        have y1:¬ t=s9.next:=by omega
        have y2:¬ s9.next=t:=by omega
        have z6:¬ s1.next=t:=by have:=hA3.mlt.2;omega
        have hD3:((getT v Tq).length+D.length) * 4≤140737488355328:=by omega
        have hD4:(getT v Tq).length+D.length≤maxLen:=by unfold maxLen;omega
        (refine d_go ?_;simp [hMT,hMB,hX,hmg,hD1,hD2,z3,z4,z5,z6,y1,y2,y5,y6,g1,g4,hD3,hD4];(refine hJ _ _ ?_;clear hJ J;simp only [ak,reduceIte]))
        skip
        refine hJ2 _ _ (by simp [fi]) (by simp [fn]) ⟨⟨by simp [f1],by simp [f2],by simp [f4],by simp [f9],by simp [f55],by simp [f56],by simp [f57],by simp [f14],by simp [f73]⟩,⟨by simp [f74],by simp [f75],by simp [f16],by simp [f82]⟩,((hk9.set g2 _).trans (Keeps.new _ _)).set (Nat.le_refl _) _,by simp;omega,fun l q1 q2=>?_,_,hT9.put (k:=[v]) (t:=s9.next) (n:=(getT v Tq).length+D.length) (c:=us (getT v Tq)++us D) ⟨Nat.le_refl _,by simp⟩ (by simp) hn39 (by omega) (by simp [rmV]) (by simp [z4]) (fun l hl hlm hx=>?_),hadd s9.next,fun y hy=>?_⟩
        ·have:=hTW9 _ (getM_mem hq2)
         simp only at this
         rw [set_H,if_neg (by omega),new_H,if_neg (by simp;omega),set_H,if_neg (by omega)];exact hW l q1 q2
        ·have:=hx _ hq2
         simp only at this
         simp [show ¬ l=s9.next by omega,hlm,this]
        ·rcases putM_mem hT9.nd y hy with rfl | ⟨hy,_⟩
         ·exact .inr hn9
         ·exact hTW9 y hy
      ·rintro fr s10 ⟨⟨f1,f2,f4,f9,f55,f56,f57,f14,f73⟩,⟨f74,f75,f16,f82⟩,hTI2⟩
       rw [List.take_length] at hTI2
       skip
       exact hJ1 _ _ (by simp [f75]) (by simp [f74]) ⟨⟨by simp [f1],by simp [f2],by simp [f4],by simp [f9],by simp [f55],by simp [f56],by simp [f57],by simp [f14],by simp [f73]⟩,hTI2⟩
     ·rintro fr s9 ⟨⟨f1,f2,f4,f9,f55,fn,fi,f14,f73⟩,hk9,hn9,_,A9,hT9,hR9,_⟩
      rw [List.take_length] at hR9
      skip
      exact hJO _ _ (by simp [fi]) (by simp [fn]) ⟨by simp [f1],by simp [f2],by simp [f4],by simp [f9],by simp [f55],hk9,_,A9,hE,hT9,hR9,o5⟩
  ·clear f1 f2 f4 f25 hoT fr
   rintro fr s4 ⟨f1,f2,f4,f9,f55,hk4,T,A2,hE,hT,hR,htot⟩
   rw [List.drop_length] at hE
   obtain rfl:some T=oT:=Option.some.inj hE
   simp only at ho
   by_cases hg1:∀ v∈g.vs,(getT v T).length≤1000
   case neg=>rw [if_neg hg1] at ho;cases ho
   rw [if_pos hg1] at ho
   obtain rfl:some _=o:=Option.some.inj ho
   have hO4:=(hk4.H (st.next+1) (by omega)).trans hO3
   have hG4:=(hk4.H st.next (by omega)).trans hG3
   (repeat' (first | refine qS ?_ | (refine w_e [] ?_;intro J hJ;simp only [];simp [f1,hG4,f9])))
   refine qE (rot_Of g s3.next (rmL A2) (fun v=>getT v T) s4 hv (by omega) hT.mlt.2 hT.map fun v hv'=>?_) (by simp [grL]) ?_
   ·rw [rmL_get]
    rcases hR.get (v:=v) with ⟨h1,h2⟩ | ⟨t,h2⟩
    ·refine ⟨_,0,rfl,?_,hg1 v hv'⟩
     rw [h2,h1];rfl
    ·refine ⟨_,t,rfl,?_,hg1 v hv'⟩
     rw [h2];rfl
   rintro r s5 ⟨rfl,hk5⟩
   have hO5:=(hk5.H (st.next+1) (by have:=hk4.next;omega)).trans hO4
   (repeat' (first | (refine qR ?_;simp only [ak,reduceIte];simp [f2,hO5]) | (refine e_go ?_;simp [f2,hO5];(refine hJ _ _ ?_;clear hJ J;simp only [ak,reduceIte]))))
   refine ⟨?_,((hKt.trans hk4).trans hk5).set (by omega) _⟩
   rw [← List.map_map]
   simp only [embR,z0,z0L,z0_us,z0_edsB,z0m,mpL,grL,List.length_map,List.cons_append,List.nil_append,rowsL]
def triP:Gr:=⟨[1,2,3],[⟨1,1,2⟩,⟨2,2,3⟩,⟨3,3,1⟩]⟩
def fiveP:Gr:=⟨[1,2,3,4,5],[⟨1,1,2⟩,⟨2,1,3⟩,⟨3,1,4⟩,⟨4,1,5⟩,⟨5,2,3⟩,⟨6,2,4⟩,⟨7,2,5⟩,⟨8,3,4⟩,⟨9,3,5⟩,⟨10,4,5⟩]⟩
theorem led_eval {g:Gr} (hg:GoodE g) {s:Bw} (h:allB g.es g.vs.length g.vs ⟨[],[],[],[]⟩=some s) {B:List (List Nat)} (hp:B.Perm s.out) (hr:B.Pairwise fun x y=>x.headD 0 < y.headD 0):ledB g.es=B:=by
 obtain ⟨s',h1,_,h2,_,h3⟩:=blocks_ok hg
 rw [h] at h1
 obtain rfl:=Option.some.inj h1
 exact (blocks_led h2 h3 hp hr).symm
theorem blks_eval {g:Gr} (hg:GoodE g) {out:List (List Nat)} (h:(allB (sE g.es) g.vs.length g.vs ⟨[],[],[],[]⟩).map (·.out)=some out) {B:List (List Nat)} (hp:B.Perm out) (hr:B.Pairwise fun x y=>x.headD 0 < y.headD 0):blksG g=B.map fun B=>B.map (eAt (sE g.es)):=by
 obtain ⟨s,h1,rfl⟩:=Option.map_eq_some_iff.1 h
 unfold blksG
 rw [led_eval (g:=⟨g.vs,sE g.es⟩) hg.simple h1 hp hr]
theorem triP_chk:chk triP=0:=by decide +kernel
theorem fiveP_chk:chk fiveP=0:=by decide +kernel
theorem triP_blks:blksG triP=[triP.es]:=by
 rw [blks_eval (chk_goodE triP_chk) (out:=[[0,1,2]]) (by decide +kernel) (List.Perm.refl _) (by decide)]
 decide +kernel
theorem fiveP_blks:blksG fiveP=[fiveP.es]:=by
 rw [blks_eval (chk_goodE fiveP_chk) (out:=[[0,1,2,3,4,5,6,7,8,9]]) (by decide +kernel) (List.Perm.refl _) (by decide)]
 decide +kernel
theorem fiveP_emb:(if chk fiveP=0 then embedF fiveP (blksG fiveP) else some none)=some none:=by
 rw [if_pos fiveP_chk,fiveP_blks]
 rfl
theorem triP_emb:(if chk triP=0 then embedF triP (blksG triP) else some none)=some (some ⟨triP,[[2,7],[3,4],[5,6]]⟩):=by
 rw [if_pos triP_chk,triP_blks]
 rfl
def preF (a b:Nat):List Ed:=fiveP.es.filter fun e=>decide (e.a < a)||(decide (e.a=a)&&decide (e.b < b))
theorem preF_step (a b:Nat) (h1:1≤a) (h2:a < b) (h3:b≤5):preF a (b+1)=preF a b++[⟨(preF a b).length+1,a,b⟩]:=by
 have h:∀ a:Fin 6,∀ b:Fin 6,1≤a.1→a.1 < b.1→preF a.1 (b.1+1)=preF a.1 b.1++[⟨(preF a.1 b.1).length+1,a.1,b.1⟩]:=by decide +kernel
 exact h ⟨a,by omega⟩ ⟨b,by omega⟩ h1 h2
theorem preF_next (a:Nat) (h1:1≤a) (h2:a≤5):preF a 6=preF (a+1) (a+2):=by
 have h:∀ a:Fin 6,1≤a.1→preF a.1 6=preF (a.1+1) (a.1+2):=by decide +kernel
 exact h ⟨a,by omega⟩ h1
theorem preF_le (a b:Nat):(preF a b).length≤10:=List.length_filter_le _ _
def FvS (st:St) (a b:Nat) (s:St):Prop:=s.H st.next=.box 35 2 [.nil,.nil]∧Keeps st s∧∃ tv t,s.H (st.next+2)=.box 35 2 [.sl tv 5 (us [1,2,3,4,5]),.sl t (preF a b).length (eds (preF a b))]∧t≠0∧st.next+2 < t∧t < s.next∧s.H t=.own 38 3 (preF a b).length
set_option maxHeartbeats 1000000 in
theorem sFive (st:St):ACalls Tryz.prog 30 [] st fun r st'=>r=.ag (grL fiveP)∧Keeps st st':=by
 refine acalls_z0 ?_
 refine qO tabOk Tryz.func30 rfl rfl Tryz.ntmps30 (rs:=[.cell 0 35]) rfl (by simp) ?_
 refine awp_posG fun hpos=>?_
 (repeat' (first | refine qS ?_ | refine qB ?_ | (refine w_e [] ?_;intro J hJ;simp only [];simp [];(refine hJ _ _ ?_;clear hJ J;simp only [ak,reduceIte]))))
 refine awp_cell (st.next+2) 38 3 (e:=35) (s:=2) [.sl (st.next+1) 5 (us [1,2,3,4,5])] [] (by simp) ?_
 refine qL (fun n fr s=>∃ a:Nat,1≤a∧a≤6∧n=6 - a∧fr 0=.pt st.next 0∧fr 1=.pt (st.next+2) 0∧fr 2=u a∧FvS st a (a+1) s) 5 ?_ ?_
 ·refine ⟨1,by omega,by omega,rfl,by simp,by simp,by simp,?_,?_,st.next+1,st.next+3,?_,by omega,by omega,by simp,?_⟩
  ·(repeat (first | rw [new_H,if_neg (α:=LObj) (by (try simp only [set_next,new_next]);omega)] | rw [set_H,if_neg (α:=LObj) (by omega)] | rw [new_H,if_pos (α:=LObj) (by (try simp only [set_next,new_next]))] | rw [set_H,if_pos (α:=LObj) (by omega)]))
  ·exact (((((Keeps.new _ _).trans (Keeps.new _ _)).trans (Keeps.new _ _)).set (by omega) _).trans (Keeps.new _ _)).set (by omega) _
  ·have:preF 1 (1+1)=[]:=by decide +kernel
   rw [this];(repeat (first | rw [new_H,if_neg (α:=LObj) (by (try simp only [set_next,new_next]);omega)] | rw [set_H,if_neg (α:=LObj) (by omega)] | rw [new_H,if_pos (α:=LObj) (by (try simp only [set_next,new_next]))] | rw [set_H,if_pos (α:=LObj) (by omega)]));simp [us,eds]
  ·have:preF 1 (1+1)=[]:=by decide +kernel
   rw [this];(repeat (first | rw [new_H,if_neg (α:=LObj) (by (try simp only [set_next,new_next]);omega)] | rw [set_H,if_neg (α:=LObj) (by omega)] | rw [new_H,if_pos (α:=LObj) (by (try simp only [set_next,new_next]))] | rw [set_H,if_pos (α:=LObj) (by omega)]));simp
 rintro n fr s ⟨a,a1,a2,rfl,f0,f1,f2,hS⟩ JJ hJJ
 by_cases ha:a≤5
 ·have hw:IntKind.u32.wrap ((a:Int)+1)=((a+1:Nat):Int):=by rw [wrap_u32' _ (by omega) (by omega)];omega
  have ha2:(a:Int)≤5:=by omega
  (repeat' (first | refine qS ?_ | refine qB ?_ | (refine qK ?_;simp only [ak,reduceIte]) | (refine qC ?_;simp [f2,ha2,hw]) | (refine w_e [] ?_;intro J hJ;simp only [];simp [f2,ha2,hw];(refine hJ _ _ ?_;clear hJ J;simp only [ak,reduceIte]))))
  refine qL (fun n fr s=>∃ b:Nat,a < b∧b≤6∧n=6 - b∧fr 0=.pt st.next 0∧fr 1=.pt (st.next+2) 0∧fr 2=u a∧fr 3=u b∧FvS st a b s) (6 - (a+1)) ?_ ?_
  ·exact ⟨a+1,by omega,by omega,rfl,by simp [f0],by simp [f1],by simp [f2],by simp,hS⟩
  clear f0 f1 f2 hS fr s
  rintro n fr s ⟨b,b1,b2,rfl,f0,f1,f2,f3,hS⟩ J2 hJ2
  by_cases hb:b≤5
  ·have hwb:IntKind.u32.wrap ((b:Int)+1)=((b+1:Nat):Int):=by rw [wrap_u32' _ (by omega) (by omega)];omega
   have hb2:(b:Int)≤5:=by omega
   obtain ⟨hR,hk,tv,t,hB,t0,t1,t2,tH⟩:=hS
   have hst:=preF_step a b a1 b1 hb
   have hpl:=preF_le a b
   generalize preF a b=E at *
   have w1:IntKind.i64.wrap ((E.length:Int)+1)=(E.length:Int)+1:=wrap_i64 _ (by omega) (by omega)
   have w2:IntKind.u32.wrap ((E.length:Int)+1)=(E.length:Int)+1:=wrap_u32' _ (by omega) (by omega)
   have hel:=eds_length E
   have hsm:=sum3P E
   have c1:¬ t=s.next:=by omega
   have c2:¬ s.next=t:=by omega
   have c3:¬ st.next+2=s.next:=by omega
   have c4:¬ st.next+2=t:=by omega
   have c5:¬ st.next+2=s.next+1:=by omega
   have c6:¬ s.next=st.next+2:=by omega
   (repeat' (first | refine qS ?_ | refine qB ?_ | (refine qK ?_;simp only [ak,reduceIte]) | (refine qC ?_;simp [f0,f1,f2,f3,hb2,hwb,hB,tH,t0,w1,w2,hel,hsm,c1,c2,c3,c4,c5,c6]) | (refine w_e [] ?_;intro J hJ;simp only [];simp [f0,f1,f2,f3,hb2,hwb,hB,tH,t0,w1,w2,hel,hsm,c1,c2,c3,c4,c5,c6];(repeat refine ca ?_);(refine hJ _ _ ?_;clear hJ J;simp only [ak,reduceIte]))))
   refine hJ2 (6 - (b+1)) _ _ (by omega) ⟨b+1,by omega,by omega,rfl,by simp [f0],by simp [f1],by simp [f2],by simp,?_,?_,tv,s.next+1,?_,by omega,by omega,by simp,?_⟩
   ·(repeat (first | rw [new_H,if_neg (α:=LObj) (by (try simp only [set_next,new_next]);omega)] | rw [set_H,if_neg (α:=LObj) (by omega)] | rw [new_H,if_pos (α:=LObj) (by (try simp only [set_next,new_next]))] | rw [set_H,if_pos (α:=LObj) (by omega)]));exact hR
   ·exact (((hk.trans (Keeps.new _ _)).set (by omega) _).trans (Keeps.new _ _)).set (by omega) _
   ·rw [hst];(repeat (first | rw [new_H,if_neg (α:=LObj) (by (try simp only [set_next,new_next]);omega)] | rw [set_H,if_neg (α:=LObj) (by omega)] | rw [new_H,if_pos (α:=LObj) (by (try simp only [set_next,new_next]))] | rw [set_H,if_pos (α:=LObj) (by omega)]));simp [eds,edL]
   ·rw [hst];(repeat (first | rw [new_H,if_neg (α:=LObj) (by (try simp only [set_next,new_next]);omega)] | rw [set_H,if_neg (α:=LObj) (by omega)] | rw [new_H,if_pos (α:=LObj) (by (try simp only [set_next,new_next]))] | rw [set_H,if_pos (α:=LObj) (by omega)]));simp
  ·obtain rfl:b=6:=by omega
   have hb2:¬ ((6:Nat):Int)≤5:=by omega
   unfold FvS at hS hJJ
   rw [preF_next a a1 ha] at hS
   (repeat' (first | refine qS ?_ | (refine qX ?_;simp only [ak,reduceIte]) | (refine qC ?_;simp [f3,f2,hw]) | (refine w_e [] ?_;intro J hJ;simp only [];simp [f3,f2,hw];(refine hJ _ _ ?_;clear hJ J;simp only [ak,reduceIte]))))
   exact hJJ _ _ _ (by omega) ⟨a+1,by omega,by omega,rfl,by simp [f0],by simp [f1],by simp,hS⟩
 ·obtain rfl:a=6:=by omega
  clear hJJ
  obtain ⟨hR,hk,tv,t,hB,t0,t1,t2,tH⟩:=hS
  have hp:preF 6 (6+1)=fiveP.es:=by decide +kernel
  rw [hp] at hB tH
  (repeat' (first | refine qS ?_ | (refine qX ?_;simp only [ak,reduceIte]) | (refine qR ?_;simp only [ak,reduceIte];simp [f0,f1,f2,hB,hR]) | (refine qC ?_;simp [f0,f1,f2,hB,hR]) | (refine w_e [] ?_;intro J hJ;simp only [];simp [f0,f1,f2,hB,hR];(refine hJ _ _ ?_;clear hJ J;simp only [ak,reduceIte]))))
  exact ⟨by simp only [z0,z0L,z0_edsB];rfl,hk.set (by omega) _⟩
end Go.Proofs.YtiiejclelbilkaaGreatDoor.Aw
namespace Go.Proofs.YtiiejclelbilkaaGreatDoor.Aw
open Go Go.RowKit
set_option linter.unusedSimpArgs false
set_option linter.unusedVariables false
end Go.Proofs.YtiiejclelbilkaaGreatDoor.Aw
namespace Go.Proofs.YtiiejclelbilkaaGreatDoor.Aw
open Go Go.RowKit Go.Proofs.YtiiejclelbilkaaGreatDoor.Pl
set_option linter.unusedSimpArgs false
set_option linter.unusedVariables false
mutual
def pureV:LV→Bool
 | .sl t _ cs=>t==0&&pureL cs
 | .nil=>true
 | .ag cs=>pureL cs
 | .tu cs=>pureL cs
 | .atom _=>true
 | _=>false
def pureL:List LV→Bool
 | []=>true
 | c::cs=>pureV c&&pureL cs
end
abbrev G0:G:=⟨1,fun _=>none,fun _=>0,fun _=>0,fun _=>false⟩
theorem g0_ok (b o:Nat):G0.ok b o:=by simp [G.ok]
mutual
theorem rep_pure {w:World} {g:G}:∀ (lv:LV) (v:Value),pureV lv=true→Rep w g lv v→Rep w G0 lv v
 | .sl t n cs,v,hp,h=>by
   simp only [pureV,Bool.and_eq_true,beq_iff_eq] at hp
   obtain ⟨rfl,hp⟩:=hp
   simp only [Rep] at h ⊢
   obtain ⟨A,cap,h1,h2,h3,_,h5⟩:=h
   refine ⟨A,cap,h1,h2,h3,fun h=>absurd rfl h,fun hne=>?_⟩
   obtain ⟨b,o,h6,h7⟩:=h5 hne
   exact ⟨b,o,h6,repRow_pure b cs o hp h7⟩
 | .nil,v,_,h=>by simpa only [Rep] using h
 | .ag cs,v,hp,h=>by
   simp only [pureV] at hp
   simp only [Rep] at h ⊢
   obtain ⟨vs,h1,h2⟩:=h
   exact ⟨vs,h1,repL_pure cs vs hp h2⟩
 | .tu cs,v,hp,h=>by
   simp only [pureV] at hp
   simp only [Rep] at h ⊢
   obtain ⟨vs,h1,h2⟩:=h
   exact ⟨vs,h1,repL_pure cs vs hp h2⟩
 | .atom _,_,_,h=>by simpa only [Rep] using h
 | .emp,_,hp,_=>by simp [pureV] at hp
 | .dead,_,hp,_=>by simp [pureV] at hp
 | .ms _ _ _,_,hp,_=>by simp [pureV] at hp
 | .pt _ _,_,hp,_=>by simp [pureV] at hp
 | .ep _,_,hp,_=>by simp [pureV] at hp
 | .mp _,_,hp,_=>by simp [pureV] at hp
 | .fn _ _,_,hp,_=>by simp [pureV] at hp
 | .qu _ _ _ _,_,hp,_=>by simp [pureV] at hp
 | .pe _ _,_,hp,_=>by simp [pureV] at hp
 | .kap _ _ _,_,hp,_=>by simp [pureV] at hp
theorem repL_pure {w:World} {g:G}:∀ (cs:List LV) (vs:List Value),pureL cs=true→RepL w g cs vs→RepL w G0 cs vs
 | [],vs,_,h=>h
 | c::cs,vs,hp,h=>by
   simp only [pureL,Bool.and_eq_true] at hp
   simp only [RepL] at h ⊢
   obtain ⟨v,vs',rfl,h1,h2⟩:=h
   exact ⟨v,vs',rfl,rep_pure c v hp.1 h1,repL_pure cs vs' hp.2 h2⟩
theorem repRow_pure {w:World} {g:G} (b:Nat):∀ (cs:List LV) (o:Nat),pureL cs=true→RepRow w g b cs o→RepRow w G0 b cs o
 | [],_,_,h=>h
 | c::cs,o,hp,h=>by
   simp only [pureL,Bool.and_eq_true] at hp
   simp only [RepRow] at h ⊢
   obtain ⟨⟨v,h1,h2,h3⟩,h4⟩:=h
   exact ⟨⟨v,h1,rep_pure c v hp.1 h2,g0_ok b o⟩,repRow_pure b cs (o+1) hp.2 h4⟩
end
theorem acalls_frameP {P:Program} {f:FuncId} {args:List LV} {r0:LV} {st:St} (ha:pureL args=true) (hr:∀ (w:World) (g g':G) v,Rep w g r0 v→Rep w g' r0 v)
 (h:ACalls P f args ⟨1,fun _=>.dead⟩ fun r _=>r=r0):ACalls P f args st fun r st'=>r=r0∧st'=st:=by
 refine ⟨h.1,fun w g vs hi hrp=>?_⟩
 have hi0:Inv w G0 ⟨1,fun _=>.dead⟩:=by
  refine ⟨rfl,by decide,fun _ _=>rfl,fun l hl=>hl.elim,fun l l' hl=>hl.elim,fun l e s n hl=>(by cases hl),fun l e s cs hl=>(by cases hl),fun l ag ks es hl=>(by cases hl),fun l e n hl=>(by cases hl),aside_bare (hi.aside.glob.phi fun _ _ _ _ _=>rfl) fun _=>rfl⟩
 refine (h.2 w _ vs hi0 (repL_pure _ _ ha hrp)).mono ?_
 rintro e w' ⟨v,r,st',g',rfl,rfl,hrep,_,he⟩
 have hB:Below w.heap.size w w':=⟨he.os,he.tape,he.output,he.size,fun k hk=>(he.still k hk rfl).2⟩
 exact ⟨v,_,st,g,rfl,⟨rfl,rfl⟩,hr _ _ _ _ hrep,inv_below hi hB,below_ext g hB⟩
def isIP (k:Int) (p:LV×St):Bool:=match p.1 with
 | .atom (.int .i64 n)=>n==k
 | _=>false
def xIP (k:Int) (r:Option (List (LV×St))):Bool:=match r with
 | some l=>l.all (isIP k)
 | none=>false
theorem acalls_closedIP {P:Program} {T:Tab} {fns:FuncId→Option Func} {pr:XCall} (hT:TabOk P T) (hf:FnsOk P fns) (hp:CallOk P pr) (hm:P.follows .mixedOrders=true) (n:Nat) {f:FuncId} {args:List LV} {k:Int} {st:St} (ha:pureL args=true)
 (h:xIP k (xcall T fns pr n f args ⟨1,fun _=>.dead⟩)=true):ACalls P f args st fun r st'=>r=i k∧st'=st:=by
 cases hx:xcall T fns pr n f args ⟨1,fun _=>.dead⟩ with
 | none=>rw [hx] at h;simp [xIP] at h
 | some l=>
   rw [hx] at h
   simp only [xIP] at h
   rw [List.all_eq_true] at h
   have:=xcall_sound hT hf hp (fun N c fr st L hx=>xrun_sound hT hf hp hm n N c fr st L hx) f args _ l hx
   refine acalls_frameP ha (fun w g g' v h=>by simp only [Rep] at h ⊢;exact h) (this.mono ?_)
   intro r1 st1 hmm
   have hb:=h _ hmm
   unfold isIP at hb
   split at hb
   ·rename_i m c
    simp only at c
    rw [c,eq_of_beq hb]
   ·cases hb
def triM:Mp:=⟨triP,[[2,7],[3,4],[5,6]]⟩
theorem triM_right (st:St):ACalls Tryz.prog 31 [.ag (mpL triM)] st fun r st'=>r=i 0∧st'=st:=
 acalls_closedIP tabOk fnsOk prim_ok mixed 1000000 (by kernel_rfl) (by kernel_rfl)
theorem Awake10P (st:St):ACalls Tryz.prog 32 [] st fun r st'=>r=bb true∧st'=st:=by
 refine qO tabOk Tryz.func32 rfl rfl Tryz.ntmps32 (rs:=[.tmp 0]) rfl (by simp) ?_
 (repeat' (first | refine qS ?_ | (refine w_e [] ?_;intro J hJ;simp only [];simp [];(try (refine hJ _ _ ?_;clear hJ J;simp only [ak,reduceIte])))))
 refine qE (awake10 _) (by simp []) ?_;rintro r st' ⟨rfl,rfl⟩
 (repeat' (first | (refine qR ?_;simp only [ak,reduceIte];simp []) | (refine e_go ?_;simp [];(refine hJ _ _ ?_;clear hJ J;simp only [ak,reduceIte]))))
theorem Awake13P (st:St):ACalls Tryz.prog 33 [] st fun r st'=>r=bb true∧st'=st:=by
 refine qO tabOk Tryz.func33 rfl rfl Tryz.ntmps33 (rs:=[.tmp 0]) rfl (by simp) ?_
 (repeat' (first | refine qS ?_ | (refine w_e [] ?_;intro J hJ;simp only [];simp [];(try (refine hJ _ _ ?_;clear hJ J;simp only [ak,reduceIte])))))
 refine qE (awake13 _) (by simp []) ?_;rintro r st' ⟨rfl,rfl⟩
 (repeat' (first | (refine qR ?_;simp only [ak,reduceIte];simp []) | (refine e_go ?_;simp [];(refine hJ _ _ ?_;clear hJ J;simp only [ak,reduceIte]))))
set_option maxHeartbeats 1000000 in
theorem awake14 (st:St):ACalls Tryz.prog 8 [] st fun r st'=>r=bb true∧st'=st:=by
 refine qT (Q:=fun r=>r=bb true) ?_ fun r h=>by subst h;trivial
 have hE1:=sEmbed triP (by decide) (by decide) triP_emb
 have hE2:=sEmbed fiveP (by decide) (by decide) fiveP_emb
 have hR:=fun s=>triM_right s
 refine qO tabOk Tryz.func8 rfl rfl Tryz.ntmps8 (rs:=[.tmp 0]) rfl (by simp) ?_
 (repeat' (first | refine qS ?_ | (refine w_e [] ?_;intro J hJ;simp only [];simp [];(try (refine hJ _ _ ?_;clear hJ J;simp only [ak,reduceIte])))))
 refine callK_of0 (hE1 _) (by simp [z0,z0L,grL,triP,us,eds,edL]) ?_;rintro r s1 ⟨rfl,hk1⟩
 unfold embR
 have hn1:=hk1.next
 simp only [new_next] at hn1
 (repeat' (first | refine qS ?_ | ((first | (refine w_e [] ?_;intro J hJ;simp only []) | (refine e_go ?_));simp [];(try (refine hJ _ _ ?_;clear hJ J;simp only [ak,reduceIte])))))
 refine qE (sFive _) (by simp) ?_;rintro r s2 ⟨rfl,hk2⟩
 have hn2:=hk2.next
 simp only [new_next] at hn2
 have hB2:s2.H s1.next=.box 46 3 (mpL triM):=by rw [hk2.H _ (by simp)];simp [triM]
 have hK2:Keeps st s2:=((((Keeps.new _ _).trans (Keeps.new _ _)).trans hk1).trans (Keeps.new _ _)).trans hk2
 (repeat' (refine e_go ?_;simp []))
 refine qE (hE2 _) (by simp) ?_;rintro r s3 ⟨rfl,hk3⟩
 unfold embR
 have hn3:=hk3.next
 have hB3:=(hk3.H s1.next (by omega)).trans hB2
 have c1:¬ s1.next=s3.next:=by omega
 have h3:triM.g.es.length=3:=rfl
 (repeat' (first | refine qS ?_ | ((first | (refine w_e [] ?_;intro J hJ;simp only []) | (refine e_go ?_));simp [hB3,c1];(try (refine hJ _ _ ?_;clear hJ J;simp only [ak,reduceIte])))))
 refine qE (hR _) (by simp [mpL,grL]) ?_;rintro r s4 ⟨rfl,e4⟩
 rw [e4];clear e4 s4
 (repeat' (refine e_go ?_;simp [hB3,c1,h3]))
 refine qE (Awake10P _) (by simp) ?_;rintro r s4 ⟨rfl,e4⟩
 rw [e4];clear e4 s4
 (repeat' (refine e_go ?_;simp [hB3,c1,h3]))
 refine qE (Awake13P _) (by simp) ?_;rintro r s4 ⟨rfl,e4⟩
 rw [e4];clear e4 s4
 (repeat' (first | (refine qR ?_;simp only [ak,reduceIte];simp [hB3,c1,h3]) | (refine e_go ?_;simp [hB3,c1,h3];(refine hJ _ _ ?_;clear hJ J;simp only [ak,reduceIte]))))
 exact (hK2.trans hk3).trans (Keeps.new _ _)
def putG {κ:Type} [DecidableEq κ] (k:κ) (y:Int):List (κ×Int)→List (κ×Int)
 | []=>[(k,y)]
 | p::W=>if p.1=k then (k,y)::W else p::putG k y W
section
variable {κ:Type} [DecidableEq κ]
theorem putG_perm (k:κ) (y:Int):∀ {W:List (κ×Int)},(W.map (·.1)).Nodup→(putG k y W).Perm ((k,y)::W.filter fun p=>decide (p.1≠k))
 | [],_=>by simp [putG]
 | p::W,h=>by
   obtain ⟨n1,n2⟩:=List.nodup_cons.1 (by simpa using h:(p.1::W.map (·.1)).Nodup)
   unfold putG
   by_cases e:p.1=k
   ·rw [if_pos e,List.filter_cons_of_neg (by simpa using e)]
    have:W.filter (fun p=>decide (p.1≠k))=W:=by
     rw [List.filter_eq_self]
     intro q hq
     have:q.1≠k:=fun h2=>n1 (List.mem_map.2 ⟨q,hq,by rw [h2,e]⟩)
     simpa using this
    rw [this]
   ·rw [if_neg e,List.filter_cons_of_pos (by simpa using e)]
    exact ((putG_perm k y n2).cons p).trans (List.Perm.swap _ _ _)
theorem putG_nodup (k:κ) (y:Int) {W:List (κ×Int)} (h:(W.map (·.1)).Nodup):((putG k y W).map (·.1)).Nodup:=by
 have hp:=(putG_perm k y h).map (·.1)
 rw [hp.nodup_iff,List.map_cons,List.nodup_cons]
 refine ⟨fun hm=>?_,(List.Sublist.map _ List.filter_sublist).nodup h⟩
 obtain ⟨q,hq,e⟩:=List.mem_map.1 hm
 have:=(List.mem_filter.1 hq).2
 simp [e] at this
end
theorem putP_eq (x y:Int):∀ P,putP x y P=putG x y P
 | []=>rfl
 | p::P=>by unfold putP putG;rw [putP_eq x y P]
def flatA (A:Tn):List ((Int×Int)×Int):=A.flatMap fun a=>a.2.map fun p=>((a.1,p.1),p.2)
structure FlOk (A:Tn):Prop where
 out:(A.map (·.1)).Nodup
 inn:∀ a∈A,(a.2.map (·.1)).Nodup
theorem flat_keys {A:Tn} {k:Int×Int} (h:k∈(flatA A).map (·.1)):k.1∈A.map (·.1):=by
 obtain ⟨q,hq,rfl⟩:=List.mem_map.1 h
 obtain ⟨a,ha,hq⟩:=List.mem_flatMap.1 hq
 obtain ⟨p,hp,rfl⟩:=List.mem_map.1 hq
 exact List.mem_map.2 ⟨a,ha,rfl⟩
theorem flat_put (v x y:Int):∀ {A:Tn},FlOk A→(flatA (putA v x y A)).Perm (((v,x),y)::(flatA A).filter fun p=>decide (p.1≠(v,x)))
 | [],_=>by simp [flatA,putA]
 | a::A,h=>by
   obtain ⟨n1,n2⟩:=List.nodup_cons.1 (by simpa using h.out:(a.1::A.map (·.1)).Nodup)
   have hA:FlOk A:=⟨n2,fun b hb=>h.inn b (List.mem_cons_of_mem _ hb)⟩
   have hf:flatA (a::A)=(a.2.map fun p=>((a.1,p.1),p.2))++flatA A:=rfl
   unfold putA
   by_cases e:a.1=v
   ·rw [if_pos e,hf,List.filter_append]
    have h1:(flatA A).filter (fun p=>decide (p.1≠(v,x)))=flatA A:=by
     rw [List.filter_eq_self]
     intro q hq
     have:q.1≠(v,x):=fun h2=>n1 (by rw [e];have:=flat_keys (List.mem_map.2 ⟨q,hq,h2⟩);exact this)
     simpa using this
    have h2:flatA ((v,putP x y a.2)::A)=((putP x y a.2).map fun p=>((v,p.1),p.2))++flatA A:=rfl
    rw [h1,h2,← List.cons_append]
    refine List.Perm.append_right _ ?_
    rw [putP_eq]
    refine ((putG_perm x y (h.inn a (by simp))).map _).trans ?_
    rw [List.map_cons,List.filter_map,e]
    refine List.Perm.cons _ ?_
    have:(a.2.filter fun p=>decide (p.1≠x))=a.2.filter ((fun p:(Int×Int)×Int=>decide (p.1≠(v,x)))∘fun p=>((v,p.1),p.2)):=by
     refine List.filter_congr fun p _=>?_
     simp
    rw [this]
   ·rw [if_neg e,hf,List.filter_append]
    have h2:flatA (a::putA v x y A)=(a.2.map fun p=>((a.1,p.1),p.2))++flatA (putA v x y A):=rfl
    have h1:(a.2.map fun p=>((a.1,p.1),p.2)).filter (fun p=>decide (p.1≠(v,x)))=a.2.map fun p=>((a.1,p.1),p.2):=by
     rw [List.filter_eq_self]
     intro q hq
     obtain ⟨p,_,rfl⟩:=List.mem_map.1 hq
     simp [e]
    rw [h1,h2]
    exact ((flat_put v x y hA).append_left _).trans List.perm_middle
theorem putA_ok (v x y:Int) {A:Tn} (h:FlOk A):FlOk (putA v x y A):=by
 by_cases hv:v∈A.map (·.1)
 ·refine ⟨by rw [putA_keys v x y A hv];exact h.out,fun a ha=>?_⟩
  rcases putA_mem h.out (getA_mem hv) a ha with rfl | ⟨ha,_⟩
  ·rw [putP_eq];exact putG_nodup _ _ (h.inn _ (getA_mem hv))
  ·exact h.inn a ha
 ·have hadd:=putA_add v x y A hv
  have h2:FlOk (A++[(v,[])]):=⟨by
   rw [List.map_append,List.nodup_append]
   refine ⟨h.out,by simp,fun a ha b hb e=>?_⟩
   simp only [List.map_cons,List.map_nil,List.mem_singleton] at hb
   subst hb;subst e
   exact hv ha,fun a ha=>by
   rcases List.mem_append.1 ha with ha | ha
   ·exact h.inn a ha
   ·rw [List.mem_singleton] at ha;rw [ha];simp⟩
  have hv2:v∈(A++[(v,([]:List (Int×Int)))]).map (·.1):=by simp
  rw [← hadd]
  refine ⟨by rw [putA_keys v x y _ hv2];exact h2.out,fun a ha=>?_⟩
  rcases putA_mem h2.out (getA_mem hv2) a ha with rfl | ⟨ha,_⟩
  ·rw [putP_eq];exact putG_nodup _ _ (h2.inn _ (getA_mem hv2))
  ·exact h2.inn a ha
def ringW (r:List Int) (W:List ((Int×Int)×Int)):Nat→List ((Int×Int)×Int)
 | 0=>W
 | j+1=>putG (r.getD j 0,r.getD (prevI r.length j) 0) (r.getD ((j+1) % r.length) 0) (ringW r W j)
def wantF (R:List (List Int)):List ((Int×Int)×Int):=R.foldl (fun W r=>ringW r W r.length) []
structure Same (A:Tn) (W:List ((Int×Int)×Int)):Prop where
 ok:FlOk A
 nd:(W.map (·.1)).Nodup
 pm:(flatA A).Perm W
theorem Same.put {A:Tn} {W:List ((Int×Int)×Int)} (h:Same A W) (v x y:Int):Same (putA v x y A) (putG (v,x) y W):=
 ⟨putA_ok v x y h.ok,putG_nodup _ _ h.nd,(flat_put v x y h.ok).trans ((List.Perm.cons _ (h.pm.filter _)).trans (putG_perm (v,x) y h.nd).symm)⟩
theorem Same.ring {A:Tn} {W:List ((Int×Int)×Int)} (h:Same A W) (r:List Int):∀ j,Same (ringA r A j) (ringW r W j)
 | 0=>h
 | j+1=>(Same.ring h r j).put _ _ _
theorem same_all (R:List (List Int)):Same (aroundF R) (wantF R):=by
 unfold aroundF wantF
 have key:∀ (R:List (List Int)) (A:Tn) (W:List ((Int×Int)×Int)),Same A W→Same (R.foldl (fun A r=>ringA r A r.length) A) (R.foldl (fun W r=>ringW r W r.length) W):=fun R=>by
  induction R with
  | nil=>exact fun A W h=>h
  | cons r R ih=>exact fun A W h=>ih _ _ (h.ring r _)
 exact key R [] [] ⟨⟨by simp,by simp⟩,by simp,by simp [flatA]⟩
def wL (W:List ((Int×Int)×Int)):List (List Int×LV):=W.map fun p=>([p.1.1,p.1.2],u p.2)
theorem wL_set (k:Int×Int) (y:Int):∀ W,mset (wL W) [k.1,k.2] (u y)=wL (putG k y W)
 | []=>rfl
 | p::W=>by
   have ih:=wL_set k y W
   unfold putG
   simp only [wL,List.map_cons,mset] at ih ⊢
   by_cases h:p.1=k
   ·rw [if_pos h,if_pos (by simp [h])];rfl
   ·rw [if_neg h,if_neg (by
     intro e
     have e:k.1=p.1.1∧k.2=p.1.2:=by simpa using e
     exact h (Prod.ext e.1.symm e.2.symm)),ih];rfl
theorem wL_get {k:Int×Int} {y:Int}:∀ {W},(W.map (·.1)).Nodup→(k,y)∈W→mget (wL W) [k.1,k.2]=some (u y)
 | p::W,hn,h=>by
   obtain ⟨n1,n2⟩:=List.nodup_cons.1 (by simpa using hn:(p.1::W.map (·.1)).Nodup)
   simp only [wL,List.map_cons,mget]
   rcases List.mem_cons.1 h with h | h
   ·rw [if_pos (by simp [← h])];rw [← h]
   ·rw [if_neg (by
     intro e
     have e:k.1=p.1.1∧k.2=p.1.2:=by simpa using e
     exact n1 (List.mem_map.2 ⟨_,h,Prod.ext e.1 e.2⟩))]
    exact wL_get n2 h
theorem putG_len {κ:Type} [DecidableEq κ] (k:κ) (y:Int):∀ W:List (κ×Int),(putG k y W).length≤W.length+1
 | []=>by simp [putG]
 | p::W=>by
   have:=putG_len k y W
   unfold putG
   split<;>simp<;>omega
theorem ringW_len (r:List Int) (W:List ((Int×Int)×Int)):∀ j,(ringW r W j).length≤W.length+j
 | 0=>Nat.le_refl _
 | j+1=>by
   have h:=ringW_len r W j
   have h2:=putG_len (r.getD j 0,r.getD (prevI r.length j) 0) (r.getD ((j+1) % r.length) 0) (ringW r W j)
   unfold ringW
   omega
theorem wantF_len {R:List (List Int)} (h:∀ r∈R,r.length≤30):(wantF R).length≤30 * R.length:=by
 have key:∀ (R:List (List Int)) (W:List ((Int×Int)×Int)),(∀ r∈R,r.length≤30)→(R.foldl (fun W r=>ringW r W r.length) W).length≤W.length+30 * R.length:=fun R=>by
  induction R with
  | nil=>exact fun W _=>Nat.le_refl _
  | cons r R ih=>
    intro W h
    have h1:=ih (ringW r W r.length) fun r hr=>h r (List.mem_cons_of_mem _ hr)
    have h2:=ringW_len r W r.length
    have h3:=h r (by simp)
    rw [List.foldl_cons,List.length_cons]
    omega
 have:=key R [] h
 unfold wantF
 simpa using this
theorem flatA_len (A:Tn):(flatA A).length=(A.map fun a=>a.2.length).sum:=by
 induction A with
 | nil=>rfl
 | cons a A ih=>simp only [flatA,List.flatMap_cons,List.length_append,List.length_map,List.map_cons,List.sum_cons] at ih ⊢;rw [ih]
end Go.Proofs.YtiiejclelbilkaaGreatDoor.Aw
namespace Go.Proofs.YtiiejclelbilkaaGreatDoor.Aw
open Go Go.RowKit Go.Proofs.YtiiejclelbilkaaGreatDoor.Pl
set_option linter.unusedSimpArgs false
set_option linter.unusedVariables false
set_option maxHeartbeats 4000000 in
theorem PlaneAround_walk (R:List (List Int)) (st:St) (hRl:R.length≤maxLen) (hrl:∀ r∈R,r.length≤maxLen):
 ACalls Tryz.prog 3 [.sl 0 R.length (rowsL R)] st fun r st'=>r=bb true:=by
 refine qO tabOk Tryz.func3 rfl rfl Tryz.ntmps3 (rs:=[.tmp 2]) rfl (by simp) ?_
 (repeat' (first | refine qS ?_ | (refine w_e [] ?_;intro J hJ;simp only [];simp [];(try (refine hJ _ _ ?_;clear hJ J;simp only [ak,reduceIte])))))
 refine qE (awake14 _) (by simp) ?_;rintro r s1 ⟨rfl,e1⟩
 rw [e1];clear e1 s1
 by_cases h20:(20:Int) < R.length
 ·(repeat' (first | refine qS ?_ | (refine qK ?_;simp only [ak,reduceIte]) | (refine qR ?_;simp only [ak,reduceIte];simp [h20]) | (refine qC ?_;simp [h20]) | ((first | (refine w_e [] ?_;intro J hJ;simp only []) | (refine e_go ?_));simp [h20];(refine hJ _ _ ?_;clear hJ J;simp only [ak,reduceIte]))))
 have hR20:R.length≤20:=by omega
 (repeat' (first | refine qS ?_ | refine qB ?_ | (refine qK ?_;simp only [ak,reduceIte]) | (refine qC ?_;simp [h20]) | ((first | (refine w_e [] ?_;intro J hJ;simp only []) | (refine e_go ?_));simp [h20];(refine hJ _ _ ?_;clear hJ J;simp only [ak,reduceIte]))))
 refine awp_range 25 24 26 71 (R.length) (fun j fr st2=>fr 0=.sl 0 R.length (rowsL R)∧fr 23=.sl 0 R.length (rowsL R)∧fr 3=.mp st.next∧st2.H st.next=.map true [.u32,.u32] (wL ((R.take j).foldl (fun W r=>ringW r W r.length) []))∧st2.next=st.next+1∧∀ r∈R.take j,r.length≤30) ?_ ?_ ?_
 ·exact ⟨by simp,by simp,by simp,by simp [wL],by simp,by simp⟩
 ·rintro j0 fr s hlt ⟨f0,f23,f3,hH,hn,h30⟩ fi fn JO hJO
  have hd:=rowsL_drop R j0 hlt
  have hgd:R.getD j0 []=R[j0]:=by rw [List.getD_eq_getElem?_getD,List.getElem?_eq_getElem hlt];rfl
  have h1:R.take (j0+1)=R.take j0++[R[j0]]:=List.take_succ_eq_append_getElem hlt
  have htk:(R.take (j0+1)).foldl (fun W r=>ringW r W r.length) []=ringW R[j0] ((R.take j0).foldl (fun W r=>ringW r W r.length) []) R[j0].length:=by
   rw [h1,List.foldl_append];rfl
  have hml:R[j0].length≤maxLen:=hrl _ (List.getElem_mem _)
  rw [hgd] at hd
  have h30':R[j0].length≤30→∀ r∈R.take (j0+1),r.length≤30:=fun h r hr=>by
   rw [h1,List.mem_append,List.mem_singleton] at hr
   rcases hr with hr | hr
   ·exact h30 r hr
   ·rw [hr];exact h
  rw [htk] at hJO
  clear htk h1 h30 hgd
  generalize (R.take j0).foldl (fun W r=>ringW r W r.length) []=W0 at *
  generalize R[j0]=r at *
  by_cases hr30:(30:Int) < r.length
  ·(repeat' (first | refine qS ?_ | (refine qR ?_;simp only [ak,reduceIte];simp [f23,fi,fn,hlt,hd,hr30]) | (refine qC ?_;simp [f23,fi,fn,hlt,hd,hr30]) | (refine w_e [] ?_;intro J hJ;simp only [];simp [f23,fi,fn,hlt,hd,hr30];(refine hJ _ _ ?_;clear hJ J;simp only [ak,reduceIte]))))
  have hr30':r.length≤30:=by omega
  have h30'':=h30' hr30'
  (repeat' (first | refine qS ?_ | refine qB ?_ | (refine qK ?_;simp only [ak,reduceIte]) | (refine qC ?_;simp [f23,fi,fn,hlt,hd,hr30]) | (refine w_e [] ?_;intro J hJ;simp only [];simp [f23,fi,fn,hlt,hd,hr30];(refine hJ _ _ ?_;clear hJ J;simp only [ak,reduceIte]))))
  refine awp_range 34 33 35 70 (r.length) (fun j fr st2=>(fr 0=.sl 0 R.length (rowsL R)∧fr 23=.sl 0 R.length (rowsL R)∧fr 25=i j0∧fr 24=i R.length)∧fr 3=.mp st.next∧fr 5=.sl 0 r.length (us r)∧fr 32=.sl 0 r.length (us r)∧st2.H st.next=.map true [.u32,.u32] (wL (ringW r W0 j))∧st2.next=st.next+1) ?_ ?_ ?_
  ·exact ⟨⟨by simp [f0],by simp [f23],by simp [fi],by simp [fn]⟩,by simp [f3],by simp,by simp,hH,hn⟩
  ·clear f0 f23 f3 fi fn hH hn fr s
   rintro k fr s hlk ⟨⟨f0,f23,f25,f24⟩,f3,f5,f32,hH,hn⟩ fi fn J2 hJ2
   have hdk:=qG r k hlk
   have hdl:=qG r (r.length - 1) (by omega)
   have hd0:=qG r 0 (by omega)
   have hsn:ringW r W0 (k+1)=putG (r.getD k 0,r.getD (prevI r.length k) 0) (r.getD ((k+1) % r.length) 0) (ringW r W0 k):=rfl
   have hset:=wL_set (r.getD k 0,r.getD (prevI r.length k) 0) (r.getD ((k+1) % r.length) 0) (ringW r W0 k)
   rw [← hsn] at hset
   simp only at hset
   have w1:IntKind.i64.wrap ((r.length:Int) - 1)=((r.length - 1:Nat):Int):=by rw [wrap_i64 _ (by omega) (by omega)];omega
   have w2:IntKind.i64.wrap ((k:Int)+1)=(k:Int)+1:=wrap_i64 _ (by omega) (by omega)
   have hr0:0 < r.length:=by omega
   have hr1:r.length - 1 < r.length:=by omega
   have hr1':((r.length - 1:Nat):Int) < r.length:=by omega
   have hh0:hdL (us r)=u (r.getD 0 0):=by rw [show us r=(us r).drop 0 from rfl,hd0];rfl
   have hr0':(0:Int) < r.length:=by omega
   have hJ3:∀ fr' s',fr' 0=.sl 0 R.length (rowsL R)→fr' 23=.sl 0 R.length (rowsL R)→fr' 25=i j0→fr' 24=i R.length→fr' 3=.mp st.next→fr' 5=.sl 0 r.length (us r)→fr' 32=.sl 0 r.length (us r)→fr' 34=i k→fr' 33=i r.length→s'.H st.next=.map true [.u32,.u32] (wL (ringW r W0 (k+1)))→s'.next=st.next+1→J2 fr' s':=fun fr' s' q1 q2 q3 q4 q5 q6 q7 q8 q9 q10 q11=>hJ2 _ _ q8 q9 ⟨⟨by simp [q1],by simp [q2],by simp [q3],by simp [q4]⟩,by simp [q5],by simp [q6],by simp [q7],q10,q11⟩
   clear hJ2
   rw [← hset] at hJ3
   have hlk':(k:Int) < r.length:=by omega
   by_cases hk0:k=0
   ·have hp:prevI r.length k=r.length - 1:=by rw [hk0];rfl
    rw [hp] at hJ3
    have hkp:¬ 0 < k:=by omega
    have hkp':¬ (0:Int) < (k:Int):=by omega
    by_cases hkn:k+1 < r.length
    ·have hmod:(k+1) % r.length=k+1:=Nat.mod_eq_of_lt hkn
     rw [hmod] at hJ3
     have hdn:=qG r (k+1) hkn
     have hkn':(k:Int)+1 < r.length:=by omega
     clear hset hsn
     generalize ringW r W0 k=W at *
     generalize r.getD k 0=v at *
     generalize r.getD (r.length - 1) 0=x at *
     generalize r.getD (k+1) 0=y at *
     generalize r.getD 0 0=z at *
     (repeat' (first | refine qS ?_ | (refine qK ?_;simp only [ak,reduceIte]) | (refine qC ?_;simp [f3,f32,f5,fi,fn,hlk,hdk,w1,w2,hr0,hr1,hr1',hdl,hh0,hr0',hkp,hkp',hkn,hkn',hdn,hH]) | ((first | (refine w_e [] ?_;intro J hJ;simp only []) | (refine w_q ?_;intro J hJ));simp [f3,f32,f5,fi,fn,hlk,hdk,w1,w2,hr0,hr1,hr1',hdl,hh0,hr0',hkp,hkp',hkn,hkn',hdn,hH];(repeat refine ca ?_);(refine hJ _ _ ?_;clear hJ J;simp only [ak,reduceIte]))))
     exact hJ3 _ _ (by simp [f0]) (by simp [f23]) (by simp [f25]) (by simp [f24]) (by simp [f3]) (by simp [f5]) (by simp [f32]) (by simp [fi]) (by simp [fn]) (by simp) (by simp [hn])
    ·have hmod:(k+1) % r.length=0:=by rw [show k+1=r.length by omega,Nat.mod_self]
     rw [hmod] at hJ3
     have hkn':¬ (k:Int)+1 < r.length:=by omega
     clear hset hsn
     generalize ringW r W0 k=W at *
     generalize r.getD k 0=v at *
     generalize r.getD (r.length - 1) 0=x at *
     generalize r.getD 0 0=z at *
     (repeat' (first | refine qS ?_ | (refine qK ?_;simp only [ak,reduceIte]) | (refine qC ?_;simp [f3,f32,f5,fi,fn,hlk,hdk,w1,w2,hr0,hr1,hr1',hdl,hh0,hr0',hkp,hkp',hkn,hkn',hH]) | ((first | (refine w_e [] ?_;intro J hJ;simp only []) | (refine w_q ?_;intro J hJ));simp [f3,f32,f5,fi,fn,hlk,hdk,w1,w2,hr0,hr1,hr1',hdl,hh0,hr0',hkp,hkp',hkn,hkn',hH];(refine hJ _ _ ?_;clear hJ J;simp only [ak,reduceIte]))))
     exact hJ3 _ _ (by simp [f0]) (by simp [f23]) (by simp [f25]) (by simp [f24]) (by simp [f3]) (by simp [f5]) (by simp [f32]) (by simp [fi]) (by simp [fn]) (by simp) (by simp [hn])
   ·have hp:prevI r.length k=k - 1:=by unfold prevI;rw [if_neg hk0]
    rw [hp] at hJ3
    have hkp:0 < k:=by omega
    have hkp':(0:Int) < (k:Int):=by omega
    have w3:IntKind.i64.wrap ((k:Int) - 1)=((k - 1:Nat):Int):=by rw [wrap_i64 _ (by omega) (by omega)];omega
    have hk1:k - 1 < r.length:=by omega
    have hk1':((k - 1:Nat):Int) < r.length:=by omega
    have hdp:=qG r (k - 1) hk1
    by_cases hkn:k+1 < r.length
    ·have hmod:(k+1) % r.length=k+1:=Nat.mod_eq_of_lt hkn
     rw [hmod] at hJ3
     have hdn:=qG r (k+1) hkn
     have hkn':(k:Int)+1 < r.length:=by omega
     clear hset hsn
     generalize ringW r W0 k=W at *
     generalize r.getD k 0=v at *
     generalize r.getD (k - 1) 0=x at *
     generalize r.getD (r.length - 1) 0=x2 at *
     generalize r.getD (k+1) 0=y at *
     generalize r.getD 0 0=z at *
     (repeat' (first | refine qS ?_ | (refine qC ?_;simp [f3,f32,f5,fi,fn,hlk,hdk,w1,w2,w3,hr0,hr1,hr1',hdl,hh0,hr0',hkp,hkp',hkn,hkn',hdn,hdp,hk1,hk1',hH]) | ((first | (refine w_e [] ?_;intro J hJ;simp only []) | (refine w_q ?_;intro J hJ));simp [f3,f32,f5,fi,fn,hlk,hdk,w1,w2,w3,hr0,hr1,hr1',hdl,hh0,hr0',hkp,hkp',hkn,hkn',hdn,hdp,hk1,hk1',hH];(repeat refine ca ?_);(refine hJ _ _ ?_;clear hJ J;simp only [ak,reduceIte]))))
     exact hJ3 _ _ (by simp [f0]) (by simp [f23]) (by simp [f25]) (by simp [f24]) (by simp [f3]) (by simp [f5]) (by simp [f32]) (by simp [fi]) (by simp [fn]) (by simp) (by simp [hn])
    ·have hmod:(k+1) % r.length=0:=by rw [show k+1=r.length by omega,Nat.mod_self]
     rw [hmod] at hJ3
     have hkn':¬ (k:Int)+1 < r.length:=by omega
     clear hset hsn
     generalize ringW r W0 k=W at *
     generalize r.getD k 0=v at *
     generalize r.getD (k - 1) 0=x at *
     generalize r.getD (r.length - 1) 0=x2 at *
     generalize r.getD 0 0=z at *
     (repeat' (first | refine qS ?_ | (refine qK ?_;simp only [ak,reduceIte]) | (refine qC ?_;simp [f3,f32,f5,fi,fn,hlk,hdk,w1,w2,w3,hr0,hr1,hr1',hdl,hh0,hr0',hkp,hkp',hkn,hkn',hdp,hk1,hk1',hH]) | ((first | (refine w_e [] ?_;intro J hJ;simp only []) | (refine w_q ?_;intro J hJ));simp [f3,f32,f5,fi,fn,hlk,hdk,w1,w2,w3,hr0,hr1,hr1',hdl,hh0,hr0',hkp,hkp',hkn,hkn',hdp,hk1,hk1',hH];(refine hJ _ _ ?_;clear hJ J;simp only [ak,reduceIte]))))
     exact hJ3 _ _ (by simp [f0]) (by simp [f23]) (by simp [f25]) (by simp [f24]) (by simp [f3]) (by simp [f5]) (by simp [f32]) (by simp [fi]) (by simp [fn]) (by simp) (by simp [hn])
  ·rintro fr s ⟨⟨f0,f23,f25,f24⟩,f3,f5,f32,hH,hn⟩
   skip
   exact hJO _ _ (by simp [f25]) (by simp [f24]) ⟨by simp [f0],by simp [f23],by simp [f3],hH,hn,h30''⟩
 ·rintro fr s ⟨f0,f23,f3,hH,hn,h30⟩
  rw [List.take_length] at hH h30
  have hSame:=same_all R
  have hwle:=wantF_len h30
  change s.H st.next=.map true [.u32,.u32] (wL (wantF R)) at hH
  simp only [ak]
  refine qS ?_
  (refine w_e [] ?_;intro J hJ;simp only [];simp [];(refine hJ _ _ ?_;clear hJ J;simp only [ak,reduceIte]))
  refine qS ?_
  refine awp_mapRangeC tabOk [] (fun f s2=>∃ M loc,f 73=.mp M∧MM (aroundF R) loc M s s2∧f 3=.mp st.next∧f 10=i 0) ?_ ?_ Tryz.underlying28
  ·refine e_go ?_
   simp [f0]
   refine qE (sAroundF R s (by omega) fun r hr=>by have:=h30 r hr;omega) (by simp) ?_;rintro r s2 ⟨M,loc,rfl,hM⟩
   simp [f3]
   exact ⟨loc,hM⟩
  ·rintro fr s2 ⟨M,loc,f73,hM,f3,f10⟩
   refine ⟨M,false,[.u32],ouL (aroundF R) loc,fun L f x=>∃ (rem:Tn) (n:Nat),L=ouL rem loc∧(∀ a∈rem,a∈aroundF R)∧f 3=.mp st.next∧f 10=i n∧n+(rem.map fun a=>a.2.length).sum=(wantF R).length∧x=s2.set M (.frz false [.u32] (ouL (aroundF R) loc)),f73,hM.out,?_,?_,?_⟩
   ·intro r
    exact ⟨aroundF R,0,rfl,fun a ha=>ha,by simp [f3],by simp [f10],by rw [Nat.zero_add,← flatA_len,hSame.pm.length_eq],rfl⟩
   ·rintro r L1 p L2 fr x ⟨rem,n,hL,hsub,f3,f10,hcnt,rfl⟩ ft J hJ
    obtain ⟨R1,R2',hrem,h1,h2⟩:=List.map_eq_append_iff.1 hL.symm
    obtain ⟨a,R2,rfl,ha,h3⟩:=List.map_eq_cons_iff.1 h2
    subst hrem;subst ha;subst h1;subst h3
    have haA:=hsub a (by simp)
    obtain ⟨k1,k2,k3⟩:=hM.inn a haA
    have hlM:¬ loc a.1=M:=k2.2
    have hMl:¬ M=loc a.1:=fun e=>hlM e.symm
    have hol:=hM.olt
    have c1:¬ st.next=M:=by omega
    have c2:¬ st.next=loc a.1:=by omega
    have hW2:s2.H st.next=.map true [.u32,.u32] (wL (wantF R)):=(hM.kp.H _ (by omega)).trans hH
    have hsum:n+a.2.length+((R1++R2).map fun a=>a.2.length).sum=(wantF R).length:=by
     rw [← hcnt];simp only [List.map_append,List.sum_append,List.map_cons,List.sum_cons];omega
    have hget:∀ q∈a.2,mget (wL (wantF R)) [a.1,q.1]=some (u q.2):=fun q hq=>
     wL_get (k:=(a.1,q.1)) hSame.nd (hSame.pm.mem_iff.1 (List.mem_flatMap.2 ⟨a,haA,List.mem_map.2 ⟨q,hq,rfl⟩⟩))
    have hJ2:∀ f':Frm,f' 3=.mp st.next→f' 10=i (n+a.2.length:Nat)→f' 74=itr r→J f' (s2.set M (.frz false [.u32] (ouL (aroundF R) loc))):=fun f' q1 q2 q3=>
     hJ _ _ ⟨R1++R2,n+a.2.length,by simp [ouL],fun b hb=>hsub b (by rcases List.mem_append.1 hb with hb | hb<;>simp [hb]),q1,q2,hsum,rfl⟩ q3 (by simp)
    clear hJ
    refine e_go ?_
    simp [keyV,mkC]
    refine awp_mapRange tabOk [] (fun L f y=>∃ (rem2:List (Int×Int)) (n2:Nat),L=inL rem2∧(∀ q∈rem2,q∈a.2)∧f 3=.mp st.next∧f 10=i n2∧f 11=u a.1∧f 74=itr r∧n2+rem2.length=n+a.2.length∧y=(s2.set M (.frz false [.u32] (ouL (aroundF R) loc))).set (loc a.1) (.frz false [.u32] (inL a.2))) (m:=loc a.1) (ag:=false) (ks:=[.u32]) (es:=inL a.2) (by simp) (by rw [set_H,if_neg hlM];exact k1) ?_ ?_ ?_ Tryz.underlying30
    ·intro r2
     exact ⟨a.2,n,rfl,fun q hq=>hq,by simp [f3],by simp [f10],by simp,by simp [ft],rfl,rfl⟩
    ·rintro r2 L1 p L2 fr x ⟨rem2,n2,hL2,hsub2,f3,f10,f11,f74,hcnt2,rfl⟩ ft2 J3 hJ3
     obtain ⟨P1,P2',hrem,h1,h2⟩:=List.map_eq_append_iff.1 hL2.symm
     obtain ⟨q,P2,rfl,ha,h3⟩:=List.map_eq_cons_iff.1 h2
     subst hrem;subst ha;subst h1;subst h3
     have hg:=hget q (hsub2 q (by simp))
     have hcn:n2+1+(P1++P2).length=n+a.2.length:=by simp at hcnt2 ⊢;omega
     refine e_go ?_
     simp [keyV,mkC]
     have hwn:IntKind.i64.wrap ((n2:Int)+1)=((n2+1:Nat):Int):=qN n2 (by omega)
     have hJ4:∀ f':Frm,f' 3=.mp st.next→f' 10=i (n2+1:Nat)→f' 11=u a.1→f' 74=itr r→f' 81=itr r2→J3 f' ((s2.set M (.frz false [.u32] (ouL (aroundF R) loc))).set (loc a.1) (.frz false [.u32] (inL a.2))):=fun f' q1 q2 q3 q4 q5=>
      hJ3 _ _ ⟨P1++P2,n2+1,by simp [inL],fun b hb=>hsub2 b (by rcases List.mem_append.1 hb with hb | hb<;>simp [hb]),q1,q2,q3,q4,hcn,rfl⟩ q5 (by simp)
     (repeat' (first | refine qS ?_ | (refine qK ?_;simp only [ak,reduceIte]) | (refine qC ?_;simp [f3,f10,f11,hW2,c1,c2,hg,hwn]) | (refine w_e [] ?_;intro J hJ;simp only [];simp [f3,f10,f11,hW2,c1,c2,hg,hwn];(refine hJ _ _ ?_;clear hJ J;simp only [ak,reduceIte]))))
     exact hJ4 _ (by simp [f3]) (by simp) (by simp [f11]) (by simp [f74]) (by simp [ft2])
    ·rintro fr x ⟨rem2,n2,hL2,hsub2,f3,f10,f11,f74,hcnt2,rfl⟩
     obtain rfl:rem2=[]:=List.map_eq_nil_iff.1 hL2.symm
     simp only [List.length_nil,Nat.add_zero] at hcnt2
     rw [hcnt2] at f10
     have hse:((s2.set M (.frz false [.u32] (ouL (aroundF R) loc))).set (loc a.1) (.frz false [.u32] (inL a.2))).set (loc a.1) (.map false [.u32] (inL a.2))=s2.set M (.frz false [.u32] (ouL (aroundF R) loc)):=St.ext' rfl fun y=>by
      by_cases hy:y=loc a.1
      ·simp [hy,hlM,k1]
      ·simp [hy]
     rw [hse]
     skip
     exact hJ2 _ (by simp [f3]) (by simp [f10]) (by simp [f74])
   ·rintro fr x ⟨rem,n,hL,hsub,f3,f10,hcnt,rfl⟩
    obtain rfl:rem=[]:=List.map_eq_nil_iff.1 hL.symm
    simp only [List.map_nil,List.sum_nil,Nat.add_zero] at hcnt
    have hol:=hM.olt
    have c1:¬ st.next=M:=by omega
    have hW2:s2.H st.next=.map true [.u32,.u32] (wL (wantF R)):=(hM.kp.H _ (by omega)).trans hH
    have hwl:(wL (wantF R)).length=n:=by simp [wL,hcnt]
    (repeat' (first | refine qS ?_ | (refine qR ?_;simp only [ak,reduceIte];simp [f3,f10,hW2,c1,hwl]) | (refine w_e [] ?_;intro J hJ;simp only [];simp [f3,f10,hW2,c1,hwl];(refine hJ _ _ ?_;clear hJ J;simp only [ak,reduceIte]))))
end Go.Proofs.YtiiejclelbilkaaGreatDoor.Aw
namespace Go.Proofs.YtiiejclelbilkaaGreatDoor.Aw
open Go Go.RowKit Go.Proofs.YtiiejclelbilkaaGreatDoor.Pl
set_option linter.unusedSimpArgs false
set_option linter.unusedVariables false
theorem PlaneAround_shp (l0:List LV) (st:St) (h0:Shp tab 22 l0):ACalls Tryz.prog 3 [argT tab 22 l0] st fun r st'=>r=bb true:=by
 obtain ⟨R,rfl,hl,hr⟩:=shp_uss h0
 exact PlaneAround_walk R st hl fun r h=>(hr r h).1
end Go.Proofs.YtiiejclelbilkaaGreatDoor.Aw
