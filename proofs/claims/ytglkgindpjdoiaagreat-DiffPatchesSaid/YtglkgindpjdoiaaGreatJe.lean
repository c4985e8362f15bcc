/- Maps that may be: darts, turns, faces; twice the genus is even, and not less than 0. No program. -/
import Derived.Test.YtglkgindpjdoiaaGreatJd
import Derived.Test.YtglkgindpjdoiaaGreatAwTd
import Derived.Lib.Overlaps
import Derived.Test.YtglkgindpjdoiaaGreatAwRg
import Derived.Test.YtglkgindpjdoiaaGreatAwMr4
import Derived.Test.YtglkgindpjdoiaaGreatAwSet
import Derived.Test.YtglkgindpjdoiaaGreatAwMr5
namespace Go.Proofs.YtglkgindpjdoiaaGreat.Aw
open Go Go.RowKit Go.Proofs.YtglkgindpjdoiaaGreat.Pl Go.Proofs.YtglkgindpjdoiaaGreat.Eu
set_option linter.unusedSimpArgs false
set_option linter.unusedVariables false
def darts (es:List Ed):List Int:=es.flatMap fun x=>[2 * x.id,2 * x.id+1]
structure GoodE (g:Gr):Prop extends Good g where
 ids:g.es.Pairwise (fun x y=>x.id < y.id)
 pos:∀ x∈g.es,1≤x.id∧x.id≤1048576
 ne:∀ x∈g.es,x.a≠x.b
theorem getE_lt (l:List Ed) (j:Nat) (hj:j < l.length):l.getD j ed0=l[j]:=by
 rw [List.getD_eq_getElem?_getD,List.getElem?_eq_getElem hj];rfl
theorem chk_goodE {g:Gr} (h:chk g=0):GoodE g:=by
 obtain ⟨hg,_,_,_⟩:=chk_good h
 unfold chk at h
 by_cases h1:64 < g.vs.length∨160 < g.es.length
 ·rw [if_pos h1] at h;cases h
 rw [if_neg h1] at h
 by_cases h2:firstNZ (badV g) g.vs.length=0
 ·rw [if_neg (by simp [h2])] at h
  have hE:=firstNZ_all h
  have hEx:∀ j,j < g.es.length→((1≤(g.es.getD j ed0).id∧(g.es.getD j ed0).id≤1048576)∧(0 < j→(g.es.getD (j - 1) ed0).id < (g.es.getD j ed0).id))∧(g.es.getD j ed0).a≠(g.es.getD j ed0).b:=by
   intro j hj
   have:=hE j hj
   unfold badE at this
   simp only at this
   by_cases h3:numb (g.es.getD j ed0).id (g.es.getD (j - 1) ed0).id (decide (j=0))=0
   ·rw [if_neg (fun h=>h h3)] at this
    by_cases h4:(g.es.getD j ed0).a=(g.es.getD j ed0).b
    ·rw [if_pos h4] at this;cases this
    ·have h6:=numb_zero h3
     exact ⟨⟨⟨h6.1,h6.2.1⟩,fun h0=>h6.2.2 (by simp;omega)⟩,h4⟩
   ·rw [if_pos h3] at this;exact absurd this h3
  have hget:∀ x∈g.es,∃ j,j < g.es.length∧g.es.getD j ed0=x:=by
   intro x hx
   obtain ⟨j,hj,rfl⟩:=List.getElem_of_mem hx
   exact ⟨j,hj,getE_lt _ _ hj⟩
  refine ⟨hg,?_,fun x hx=>?_,fun x hx=>?_⟩
  ·rw [List.pairwise_iff_getElem]
   intro a b ha hb hab
   induction b with
   | zero=>omega
   | succ b ih=>
     have h1:=(hEx (b+1) hb).1.2 (by omega)
     rw [Nat.add_sub_cancel,getE_lt _ _ hb,getE_lt _ _ (by omega)] at h1
     rcases Nat.lt_or_ge a b with h2 | h2
     ·have:=ih (by omega) h2;omega
     ·obtain rfl:a=b:=by omega
      exact h1
  ·obtain ⟨j,hj,rfl⟩:=hget x hx
   exact (hEx j hj).1.1
  ·obtain ⟨j,hj,rfl⟩:=hget x hx
   exact (hEx j hj).2
 ·rw [if_pos h2] at h;exact absurd h h2
theorem id_eq {es:List Ed} (h:es.Pairwise (fun x y=>x.id < y.id)) {x y:Ed} (hx:x∈es) (hy:y∈es) (he:x.id=y.id):x=y:=by
 obtain ⟨j,hj,rfl⟩:=List.getElem_of_mem hx
 obtain ⟨k,hk,rfl⟩:=List.getElem_of_mem hy
 rcases Nat.lt_trichotomy j k with h1 | h1 | h1
 ·have:=List.pairwise_iff_getElem.1 h j k hj hk h1;omega
 ·subst h1;rfl
 ·have:=List.pairwise_iff_getElem.1 h k j hk hj h1;omega
theorem mem_ends {es:List Ed} {v d:Int}:d∈ends es v↔∃ x∈es,(x.a=v∧d=2 * x.id)∨(x.b=v∧d=2 * x.id+1):=by
 unfold ends
 rw [List.mem_flatMap]
 refine exists_congr fun x=>and_congr_right fun _=>?_
 unfold end1
 rw [List.mem_append]
 refine or_congr ?_ ?_
 ·split
  ·rename_i h;simp [h]
  ·rename_i h;simp [h]
 ·split
  ·rename_i h;simp [h]
  ·rename_i h;simp [h]
theorem mem_darts {es:List Ed} {d:Int}:d∈darts es↔∃ x∈es,d=2 * x.id∨d=2 * x.id+1:=by
 unfold darts
 rw [List.mem_flatMap]
 refine exists_congr fun x=>and_congr_right fun _=>?_
 simp
theorem darts_half {es:List Ed} {d:Int}:d∈darts es↔∃ x∈es,x.id=d / 2:=by
 rw [mem_darts]
 refine exists_congr fun x=>and_congr_right fun _=>?_
 omega
theorem darts_rise {es:List Ed} (h:es.Pairwise (fun x y=>x.id < y.id)):(darts es).Pairwise (· < ·):=by
 unfold darts
 rw [List.pairwise_flatMap]
 refine ⟨fun x _=>by simp;omega,h.imp fun {x y} hxy a ha b hb=>?_⟩
 simp at ha hb
 omega
theorem ends_rise {es:List Ed} (h:es.Pairwise (fun x y=>x.id < y.id)) (v:Int):(ends es v).Pairwise (· < ·):=by
 unfold ends
 rw [List.pairwise_flatMap]
 refine ⟨fun x _=>?_,h.imp fun {x y} hxy a ha b hb=>?_⟩
 ·unfold end1
  by_cases h1:x.a=v<;>by_cases h2:x.b=v<;>simp [h1,h2]
  omega
 ·unfold end1 at ha hb
  simp only [List.mem_append] at ha hb
  have h1:a=2 * x.id∨a=2 * x.id+1:=by
   rcases ha with ha | ha<;>split at ha<;>simp at ha
   ·exact .inl ha
   ·exact .inr ha
  have h2:b=2 * y.id∨b=2 * y.id+1:=by
   rcases hb with hb | hb<;>split at hb<;>simp at hb
   ·exact .inl hb
   ·exact .inr hb
  omega
theorem rise_nodup {l:List Int} (h:l.Pairwise (· < ·)):l.Nodup:=h.imp fun h=>by omega
theorem darts_length (es:List Ed):(darts es).length=2 * es.length:=by
 induction es with
 | nil=>rfl
 | cons x l ih=>simp only [darts,List.flatMap_cons,List.length_append,List.length_cons,List.length_nil] at ih ⊢;omega
theorem darts_get (es:List Ed) (k:Nat) (hk:k < es.length):(darts es).getD (2 * k) 0=2 * (es.getD k ed0).id∧(darts es).getD (2 * k+1) 0=2 * (es.getD k ed0).id+1:=by
 induction es generalizing k with
 | nil=>simp at hk
 | cons x l ih=>
   cases k with
   | zero=>simp [darts]
   | succ k=>
     have:=ih k (by simpa using hk)
     simp only [darts,List.flatMap_cons,List.cons_append,List.nil_append,show 2 * (k+1)=2 * k+1+1 by omega,List.getD_cons_succ] at this ⊢
     exact this
def okTurn (es:List Ed) (v:Int) (t:List Int):Prop:=t.Perm (ends es v)∧nrm t=t
structure MapOk (m:Mp):Prop where
 g:GoodE m.g
 len:m.rots.length=m.g.vs.length
 ok:∀ k,k < m.g.vs.length→okTurn m.g.es (m.g.vs.getD k 0) (m.rots.getD k [])
theorem at_unique {es:List Ed} (h:es.Pairwise (fun x y=>x.id < y.id)) {d v w:Int} (hv:d∈ends es v) (hw:d∈ends es w):v=w:=by
 rw [mem_ends] at hv hw
 obtain ⟨x,hx,h1⟩:=hv
 obtain ⟨y,hy,h2⟩:=hw
 have he:x.id=y.id:=by omega
 have:=id_eq h hx hy he
 subst this
 omega
theorem ends_dart {es:List Ed} {d v:Int} (h:d∈ends es v):d∈darts es:=by
 rw [mem_ends] at h
 rw [mem_darts]
 obtain ⟨x,hx,h1⟩:=h
 exact ⟨x,hx,by omega⟩
theorem dart_at {es:List Ed} {d:Int} (h:d∈darts es):∃ v,d∈ends es v∧∃ x∈es,x.id=d / 2∧(v=x.a∨v=x.b):=by
 rw [mem_darts] at h
 obtain ⟨x,hx,h1 | h1⟩:=h
 ·exact ⟨x.a,mem_ends.2 ⟨x,hx,.inl ⟨rfl,h1⟩⟩,x,hx,by omega,.inl rfl⟩
 ·exact ⟨x.b,mem_ends.2 ⟨x,hx,.inr ⟨rfl,h1⟩⟩,x,hx,by omega,.inr rfl⟩
theorem getR_lt (l:List (List Int)) (j:Nat) (hj:j < l.length):l.getD j []=l[j]:=by
 rw [List.getD_eq_getElem?_getD,List.getElem?_eq_getElem hj];rfl
section
variable {m:Mp} (h:MapOk m)
include h
theorem MapOk.turn {t:List Int} (ht:t∈m.rots):∃ k,k < m.g.vs.length∧t=m.rots.getD k []∧okTurn m.g.es (m.g.vs.getD k 0) t:=by
 obtain ⟨k,hk,rfl⟩:=List.getElem_of_mem ht
 have hk':k < m.g.vs.length:=by rw [← h.len];exact hk
 refine ⟨k,hk',(getR_lt _ _ hk).symm,?_⟩
 have:=h.ok k hk'
 rwa [getR_lt _ _ hk] at this
theorem MapOk.nodup {t:List Int} (ht:t∈m.rots):t.Nodup:=by
 obtain ⟨k,_,_,h1,_⟩:=h.turn ht
 exact h1.nodup_iff.2 (rise_nodup (ends_rise h.g.ids _))
theorem MapOk.same {t t':List Int} (ht:t∈m.rots) (ht':t'∈m.rots) {d:Int} (hd:d∈t) (hd':d∈t'):t=t':=by
 obtain ⟨k,hk,rfl,h1,_⟩:=h.turn ht
 obtain ⟨k',hk',rfl,h2,_⟩:=h.turn ht'
 have:=at_unique h.g.ids (h1.mem_iff.1 hd) (h2.mem_iff.1 hd')
 rw [getD_lt _ _ hk,getD_lt _ _ hk'] at this
 have h3:=congrArg m.g.vs.idxOf this
 rw [h.g.toGood.nodup.idxOf_getElem,h.g.toGood.nodup.idxOf_getElem] at h3
 rw [h3]
theorem MapOk.turn_of {d:Int} (hd:d∈darts m.g.es):∃ t∈m.rots,d∈t:=by
 obtain ⟨v,hv,x,hx,_,hvx⟩:=dart_at hd
 have hvin:v∈m.g.vs:=by
  rcases hvx with rfl | rfl
  ·exact (h.g.ends x hx).1
  ·exact (h.g.ends x hx).2
 obtain ⟨k,hk,rfl⟩:=List.getElem_of_mem hvin
 have:=h.ok k hk
 rw [getD_lt _ _ hk] at this
 refine ⟨_,?_,this.1.mem_iff.2 hv⟩
 rw [getR_lt _ _ (by rw [h.len];exact hk)]
 exact List.getElem_mem _
theorem MapOk.turn_dart {t:List Int} (ht:t∈m.rots) {d:Int} (hd:d∈t):d∈darts m.g.es:=by
 obtain ⟨k,_,_,h1,_⟩:=h.turn ht
 exact ends_dart (h1.mem_iff.1 hd)
theorem MapOk.row_le {t:List Int} (ht:t∈m.rots):t.length≤2 * m.g.es.length:=by
 obtain ⟨k,_,_,h1,_⟩:=h.turn ht
 rw [h1.length_eq]
 exact flat_len _ (end1_len _) _
end
def sg (m:Mp) (d:Int):Int:=match m.rots.find? (fun t=>decide (d∈t)) with
 | some t=>nx t d
 | none=>d
theorem sg_out {m:Mp} {d:Int} (h:∀ t∈m.rots,d∉t):sg m d=d:=by
 unfold sg
 have:m.rots.find? (fun t=>decide (d∈t))=none:=by
  rw [List.find?_eq_none]
  intro t ht
  simpa using h t ht
 rw [this]
theorem sg_at {m:Mp} (h:MapOk m) {t:List Int} (ht:t∈m.rots) {d:Int} (hd:d∈t):sg m d=nx t d:=by
 unfold sg
 cases hf:m.rots.find? (fun t=>decide (d∈t)) with
 | none=>
   rw [List.find?_eq_none] at hf
   exact absurd hd (by simpa using hf t ht)
 | some t'=>
   have h1:=List.find?_some hf
   have h2:=List.mem_of_find?_eq_some hf
   simp only at h1 ⊢
   rw [h.same h2 ht (by simpa using h1) hd]
def al (es:List Ed) (d:Int):Int:=if (es.any fun x=>decide (x.id=d / 2))=true then tw d else d
theorem al_in {es:List Ed} {d:Int} (h:d∈darts es):al es d=tw d:=by
 unfold al
 rw [if_pos]
 obtain ⟨x,hx,h⟩:=darts_half.1 h
 exact List.any_eq_true.2 ⟨x,hx,by simpa using h⟩
theorem al_out {es:List Ed} {d:Int} (h:d∉darts es):al es d=d:=by
 unfold al
 rw [if_neg]
 intro ha
 obtain ⟨x,hx,h1⟩:=List.any_eq_true.1 ha
 exact h (darts_half.2 ⟨x,hx,by simpa using h1⟩)
theorem twHalf (d:Int):tw d / 2=d / 2:=by unfold tw;split<;>omega
theorem twTw (d:Int):tw (tw d)=d:=by unfold tw;split<;>split<;>omega
theorem tw_dart {es:List Ed} {d:Int}:tw d∈darts es↔d∈darts es:=by rw [darts_half,darts_half,twHalf]
theorem al_al (es:List Ed) (d:Int):al es (al es d)=d:=by
 by_cases h:d∈darts es
 ·rw [al_in h,al_in (tw_dart.2 h),twTw]
 ·rw [al_out h,al_out h]
theorem al_half (es:List Ed) (d:Int):al es d / 2=d / 2:=by
 unfold al;split
 ·exact twHalf d
 ·rfl
theorem al_dart (es es':List Ed) (d:Int):al es d∈darts es'↔d∈darts es':=by rw [darts_half,darts_half,al_half]
theorem al_inj (es:List Ed) {d e:Int} (h:al es d=al es e):d=e:=by rw [← al_al es d,h,al_al]
def fc (m:Mp) (es:List Ed) (d:Int):Int:=sg m (al es d)
section
variable {m:Mp} (h:MapOk m)
include h
theorem MapOk.sg_mem {t:List Int} (ht:t∈m.rots) {d:Int} (hd:d∈t):sg m d∈t:=by rw [sg_at h ht hd];exact nx_mem hd
theorem MapOk.sg_dart {d:Int} (hd:d∈darts m.g.es):sg m d∈darts m.g.es:=by
 obtain ⟨t,ht,hdt⟩:=h.turn_of hd
 exact h.turn_dart ht (h.sg_mem ht hdt)
theorem MapOk.sg_id {d:Int} (hd:d∉darts m.g.es):sg m d=d:=sg_out fun _ ht hdt=>hd (h.turn_dart ht hdt)
theorem MapOk.sg_inj {d e:Int} (he:sg m d=sg m e):d=e:=by
 by_cases h1:d∈darts m.g.es
 ·by_cases h2:e∈darts m.g.es
  ·obtain ⟨t,ht,hd⟩:=h.turn_of h1
   obtain ⟨t',ht',hd'⟩:=h.turn_of h2
   have:=h.same ht ht' (h.sg_mem ht hd) (he ▸ h.sg_mem ht' hd')
   subst this
   rw [sg_at h ht hd,sg_at h ht hd'] at he
   exact nx_inj (h.nodup ht) hd hd' he
  ·have:=h.sg_dart h1
   rw [he,h.sg_id h2] at this
   exact absurd this h2
 ·by_cases h2:e∈darts m.g.es
  ·have:=h.sg_dart h2
   rw [← he,h.sg_id h1] at this
   exact absurd this h1
  ·rwa [h.sg_id h1,h.sg_id h2] at he
theorem MapOk.fc_inj (es:List Ed) (d e:Int) (he:fc m es d=fc m es e):d=e:=al_inj es (h.sg_inj he)
theorem MapOk.fc_dart (es:List Ed) (d:Int) (hd:d∈darts m.g.es):fc m es d∈darts m.g.es:=h.sg_dart ((al_dart es _ d).2 hd)
theorem MapOk.fc_per (es:List Ed) (hs:∀ x∈es,x∈m.g.es):Per (fc m es):=by
 refine per_of (darts m.g.es) (fun x hx=>h.fc_dart es x hx) (h.fc_inj es) fun x hx=>?_
 have hx':x∉darts es:=fun hd=>hx (by
  rw [mem_darts] at hd ⊢
  obtain ⟨y,hy,h1⟩:=hd
  exact ⟨y,hs y hy,h1⟩)
 unfold fc
 rw [al_out hx',h.sg_id hx]
theorem MapOk.sg_at_v {d v:Int} (hd:d∈ends m.g.es v):sg m d∈ends m.g.es v:=by
 obtain ⟨t,ht,hdt⟩:=h.turn_of (ends_dart hd)
 obtain ⟨k,hk,rfl,h1,_⟩:=h.turn ht
 have:=at_unique h.g.ids hd (h1.mem_iff.1 hdt)
 rw [this]
 exact h1.mem_iff.1 (h.sg_mem ht hdt)
theorem MapOk.orb_reach (es:List Ed) (hs:∀ x∈es,x∈m.g.es) (n:Nat):∀ {d v:Int},d∈ends m.g.es v→∃ w,it (fc m es) n d∈ends m.g.es w∧Reach es v w:=by
 induction n with
 | zero=>intro d v hd;exact ⟨v,hd,.refl⟩
 | succ n ih=>
   intro d v hd
   have key:∃ w,fc m es d∈ends m.g.es w∧Reach es v w:=by
    by_cases hin:d∈darts es
    ·unfold fc
     rw [al_in hin]
     obtain ⟨x,hx,hxd⟩:=darts_half.1 hin
     have hxg:=hs x hx
     obtain ⟨y,hy,hyd⟩:=mem_ends.1 hd
     have hxy:x=y:=id_eq h.g.ids hxg hy (by omega)
     subst hxy
     rcases hyd with ⟨rfl,hdd⟩ | ⟨rfl,hdd⟩
     ·refine ⟨x.b,h.sg_at_v (mem_ends.2 ⟨x,hxg,.inr ⟨rfl,?_⟩⟩),.step .refl (mem_nbr.2 ⟨x,hx,.inl ⟨rfl,rfl⟩⟩)⟩
      unfold tw;split<;>omega
     ·refine ⟨x.a,h.sg_at_v (mem_ends.2 ⟨x,hxg,.inl ⟨rfl,?_⟩⟩),.step .refl (mem_nbr.2 ⟨x,hx,.inr ⟨rfl,rfl⟩⟩)⟩
      unfold tw;split<;>omega
    ·unfold fc
     rw [al_out hin]
     exact ⟨v,h.sg_at_v hd,.refl⟩
   obtain ⟨w,h1,h2⟩:=key
   obtain ⟨w',h3,h4⟩:=ih h1
   exact ⟨w',h3,h2.trans h4⟩
end
theorem reach_eqv (es:List Ed):Eqv (Reach es):=⟨fun _=>.refl,Reach.symm,Reach.trans⟩
theorem Reach.mono {es es':List Ed} (hs:∀ x∈es,x∈es') {v w:Int} (h:Reach es v w):Reach es' v w:=by
 induction h with
 | refl=>exact .refl
 | step _ hw ih=>
   refine .step ih ?_
   rw [mem_nbr] at hw ⊢
   obtain ⟨x,hx,h1⟩:=hw
   exact ⟨x,hs x hx,h1⟩
theorem reach_snoc (es:List Ed) (x:Ed) (v w:Int):Reach (es++[x]) v w↔Eu.Mg (Reach es) x.a x.b v w:=by
 constructor
 ·intro h
  have hE:=Mg.eqv (reach_eqv es) x.a x.b
  induction h with
  | refl=>exact hE.refl _
  | step _ hw ih=>
    refine hE.trans ih ?_
    obtain ⟨y,hy,h1⟩:=mem_nbr.1 hw
    rw [List.mem_append,List.mem_singleton] at hy
    rcases hy with hy | rfl
    ·exact .inl (.step .refl (mem_nbr.2 ⟨y,hy,h1⟩))
    ·rcases h1 with ⟨rfl,rfl⟩ | ⟨rfl,rfl⟩
     ·exact .inr (.inl ⟨.refl,.refl⟩)
     ·exact .inr (.inr ⟨.refl,.refl⟩)
 ·refine Mg.le (reach_eqv _) (.step .refl (mem_nbr.2 ⟨x,by simp,.inl ⟨rfl,rfl⟩⟩)) fun v w h=>h.mono fun y hy=>by simp [hy]
theorem ncl_one {R:Int→Int→Prop} (hR:∀ x y,R x y→x=y) {l:List Int} (hn:l.Nodup):ncl R l=l.length:=by
 induction l with
 | nil=>rfl
 | cons x l ih=>
   rw [List.nodup_cons] at hn
   rw [ncl_cons_new,ih hn.2,List.length_cons]
   rintro ⟨y,hy,hr⟩
   exact hn.1 (hR _ _ hr ▸ hy)
theorem reach_nil {v w:Int} (h:Reach [] v w):v=w:=by
 induction h with
 | refl=>rfl
 | step _ hw _=>obtain ⟨x,hx,_⟩:=mem_nbr.1 hw;cases hx
theorem filter_eq {α β:Type} (p:α→Bool) (q:β→Bool):∀ (l:List α) (l':List β),l.length=l'.length→(∀ k (h1:k < l.length) (h2:k < l'.length),p l[k]=!q l'[k])→(l.filter p).length+l'.countP q=l.length
 | [],[],_,_=>rfl
 | [],_::_,h,_=>by simp at h
 | _::_,[],h,_=>by simp at h
 | a::l,b::l',h,hk=>by
   have ih:=filter_eq p q l l' (by simpa using h) fun k h1 h2=>hk (k+1) (by simpa using h1) (by simpa using h2)
   have h0:=hk 0 (by simp) (by simp)
   simp only [List.getElem_cons_zero] at h0
   rw [List.filter_cons,List.countP_cons,h0,List.length_cons]
   cases q b<;>simp<;>omega
section
variable {m:Mp} (h:MapOk m)
include h
theorem MapOk.flat_perm:(darts m.g.es).Perm m.rots.flatten:=by
 refine (List.perm_ext_iff_of_nodup (rise_nodup (darts_rise h.g.ids)) ?_).2 fun d=>?_
 ·unfold List.Nodup
  rw [List.pairwise_flatten]
  refine ⟨fun t ht=>h.nodup ht,?_⟩
  rw [List.pairwise_iff_getElem]
  intro a b ha hb hab x hx y hy
  rintro rfl
  have h1:=h.ok a (by rw [← h.len];exact ha)
  have h2:=h.ok b (by rw [← h.len];exact hb)
  rw [getR_lt _ _ ha] at h1
  rw [getR_lt _ _ hb] at h2
  have h3:=at_unique h.g.ids (h1.1.mem_iff.1 hx) (h2.1.mem_iff.1 hy)
  have ha':a < m.g.vs.length:=by rw [← h.len];exact ha
  have hb':b < m.g.vs.length:=by rw [← h.len];exact hb
  rw [getD_lt _ _ ha',getD_lt _ _ hb'] at h3
  have:=List.pairwise_iff_getElem.1 h.g.rise a b ha' hb' hab
  omega
 ·rw [List.mem_flatten]
  exact ⟨fun hd=>h.turn_of hd,fun ⟨t,ht,hd⟩=>h.turn_dart ht hd⟩
theorem MapOk.ncl_sg:ncl (Orb (sg m)) (darts m.g.es)+alone m.g=m.g.vs.length:=by
 have hfc:fc m []=sg m:=by funext d;simp [fc,al]
 have hP:Per (sg m):=by rw [← hfc];exact h.fc_per [] (fun x hx=>by cases hx)
 have hst:∀ t∈m.rots,∀ n x,x∈t→it (sg m) n x∈t:=by
  intro t ht n
  induction n with
  | zero=>intro x hx;exact hx
  | succ n ih=>intro x hx;exact ih _ (h.sg_mem ht hx)
 have hit:∀ t∈m.rots,∀ n x,x∈t→it (sg m) n x=it (nx t) n x:=by
  intro t ht n
  induction n with
  | zero=>intro x hx;rfl
  | succ n ih=>intro x hx;rw [it_succ,it_succ,ih x hx,sg_at h ht];rw [← ih x hx];exact hst t ht n x hx
 rw [ncl_perm hP.eqv h.flat_perm,ncl_rows]
 ·have:=filter_eq (fun t=>decide (t≠[])) (fun v=>decide (nbr m.g.es v=[])) m.rots m.g.vs h.len fun k h1 h2=>?_
  ·rw [← h.len];exact this
  ·have hk:=h.ok k h2
   rw [getR_lt _ _ h1,getD_lt _ _ h2] at hk
   have e1:m.rots[k]=[]↔nbr m.g.es m.g.vs[k]=[]:=by
    rw [← ends_nil]
    constructor
    ·intro h3;have:=hk.1;rw [h3] at this;exact this.symm.eq_nil
    ·intro h3;have:=hk.1;rw [h3] at this;exact this.eq_nil
   by_cases h3:m.rots[k]=[]
   ·simp [h3,e1.1 h3]
   ·have h5:¬ nbr m.g.es m.g.vs[k]=[]:=fun h4=>h3 (e1.2 h4)
    simp [h3,h5]
 ·intro t ht x hx y hy
  obtain ⟨n,hn⟩:=nx_orb (h.nodup ht) hx hy
  exact ⟨n,by rw [hit t ht n x hx,hn]⟩
 ·rw [List.pairwise_iff_getElem]
  rintro a b ha hb hab x hx y hy ⟨n,hn⟩
  have h4:=hst _ (List.getElem_mem hb) n y hy
  rw [hn] at h4
  have h1:=h.ok a (by rw [← h.len];exact ha)
  have h2:=h.ok b (by rw [← h.len];exact hb)
  rw [getR_lt _ _ ha] at h1
  rw [getR_lt _ _ hb] at h2
  have h3:=at_unique h.g.ids (h1.1.mem_iff.1 hx) (h2.1.mem_iff.1 h4)
  have ha':a < m.g.vs.length:=by rw [← h.len];exact ha
  have hb':b < m.g.vs.length:=by rw [← h.len];exact hb
  rw [getD_lt _ _ ha',getD_lt _ _ hb'] at h3
  have:=List.pairwise_iff_getElem.1 h.g.rise a b ha' hb' hab
  omega
theorem MapOk.euler_at (j:Nat) (hj:j≤m.g.es.length):∃ k:Nat,2 * ncl (Reach (m.g.es.take j)) m.g.vs+j=2 * k+alone m.g+m.g.vs.length+ncl (Orb (fc m (m.g.es.take j))) (darts m.g.es):=by
 induction j with
 | zero=>
   have hfc:fc m []=sg m:=by funext d;simp [fc,al]
   refine ⟨0,?_⟩
   rw [List.take_zero,hfc,ncl_one (fun x y=>reach_nil) h.g.toGood.nodup]
   have:=h.ncl_sg
   omega
 | succ j ih=>
   obtain ⟨k,hk⟩:=ih (by omega)
   have hs:∀ i,∀ x∈m.g.es.take i,x∈m.g.es:=fun i x hx=>List.mem_of_mem_take hx
   have hp:=h.fc_per (m.g.es.take j) (hs j)
   have hp':=h.fc_per (m.g.es.take (j+1)) (hs (j+1))
   have htk:m.g.es.take (j+1)=m.g.es.take j++[m.g.es[j]]:=List.take_succ_eq_append_getElem (by omega)
   have hxin:m.g.es[j]∈m.g.es:=List.getElem_mem _
   have hxno:∀ y∈m.g.es.take j,y.id≠m.g.es[j].id:=by
    intro y hy
    obtain ⟨i,hi,rfl⟩:=List.getElem_of_mem hy
    rw [List.length_take] at hi
    rw [List.getElem_take]
    have:=List.pairwise_iff_getElem.1 h.g.ids i j (by omega) (by omega) (by omega)
    omega
   generalize m.g.es[j]=x at *
   have hf':∀ d,fc m (m.g.es.take (j+1)) d=fc m (m.g.es.take j) (sw (2 * x.id) (2 * x.id+1) d):=by
    intro d
    unfold fc
    congr 1
    by_cases h1:d=2 * x.id
    ·subst h1
     rw [sw_a,al_in (darts_half.2 ⟨x,by rw [htk];simp,by omega⟩),al_out]
     ·unfold tw;rw [if_pos (by omega)]
     ·intro hd
      obtain ⟨y,hy,h2⟩:=darts_half.1 hd
      exact hxno y hy (by omega)
    ·by_cases h2:d=2 * x.id+1
     ·subst h2
      rw [sw_b,al_in (darts_half.2 ⟨x,by rw [htk];simp,by omega⟩),al_out]
      ·unfold tw;rw [if_neg (by omega)];omega
      ·intro hd
       obtain ⟨y,hy,h2⟩:=darts_half.1 hd
       exact hxno y hy (by omega)
     ·rw [sw_o h1 h2]
      by_cases h3:d∈darts (m.g.es.take j)
      ·rw [al_in h3,al_in]
       obtain ⟨y,hy,h4⟩:=darts_half.1 h3
       exact darts_half.2 ⟨y,by rw [htk];simp [hy],h4⟩
      ·rw [al_out h3,al_out]
       intro hd
       obtain ⟨y,hy,h4⟩:=darts_half.1 hd
       rw [htk,List.mem_append,List.mem_singleton] at hy
       rcases hy with hy | rfl
       ·exact h3 (darts_half.2 ⟨y,hy,h4⟩)
       ·omega
   have ha:2 * x.id∈darts m.g.es:=mem_darts.2 ⟨x,hxin,.inl rfl⟩
   have hb:2 * x.id+1∈darts m.g.es:=mem_darts.2 ⟨x,hxin,.inr rfl⟩
   have hR:∀ v w,Reach (m.g.es.take (j+1)) v w↔Eu.Mg (Reach (m.g.es.take j)) x.a x.b v w:=fun v w=>by rw [htk];exact reach_snoc _ _ _ _
   have hRn:ncl (Reach (m.g.es.take (j+1))) m.g.vs=ncl (Eu.Mg (Reach (m.g.es.take j)) x.a x.b) m.g.vs:=ncl_congr fun v _ w _=>hR v w
   rw [hRn]
   by_cases ho:Orb (fc m (m.g.es.take j)) (2 * x.id) (2 * x.id+1)
   ·have h1:=ncl_split hp hp' hf' (by omega) ha hb ho
    have hr:Reach (m.g.es.take j) x.a x.b:=by
     obtain ⟨n,hn⟩:=ho
     obtain ⟨w,h2,h3⟩:=h.orb_reach (m.g.es.take j) (hs j) n (mem_ends.2 ⟨x,hxin,.inl ⟨rfl,rfl⟩⟩)
     rw [hn] at h2
     rwa [at_unique h.g.ids h2 (mem_ends.2 ⟨x,hxin,.inr ⟨rfl,rfl⟩⟩)] at h3
    have h2:ncl (Eu.Mg (Reach (m.g.es.take j)) x.a x.b) m.g.vs=ncl (Reach (m.g.es.take j)) m.g.vs:=ncl_congr fun v _ w _=>Mg.same (reach_eqv _) hr v w
    rw [h2,h1]
    exact ⟨k,by omega⟩
   ·have h1:=ncl_join hp hp' hf' ha hb ho
    by_cases hr:Reach (m.g.es.take j) x.a x.b
    ·have h2:ncl (Eu.Mg (Reach (m.g.es.take j)) x.a x.b) m.g.vs=ncl (Reach (m.g.es.take j)) m.g.vs:=ncl_congr fun v _ w _=>Mg.same (reach_eqv _) hr v w
     rw [h2]
     exact ⟨k+1,by omega⟩
    ·have h2:=ncl_mg (reach_eqv _) hr (h.g.ends x hxin).1 (h.g.ends x hxin).2
     exact ⟨k,by omega⟩
theorem MapOk.euler:∃ k:Nat,2 * ncl (Reach m.g.es) m.g.vs+m.g.es.length=2 * k+alone m.g+m.g.vs.length+ncl (Orb (fc m m.g.es)) (darts m.g.es):=by
 have:=h.euler_at m.g.es.length (Nat.le_refl _)
 rwa [List.take_length] at this
end
theorem PartsTo.ncl {g:Gr} {k:Nat} {R:List (List Int)} (h:PartsTo g k R):R.length=Eu.ncl (Reach g.es) (g.vs.take k).reverse:=by
 induction h with
 | zero=>rfl
 | @seen k R _ hk hs ih=>
   rw [List.take_succ_eq_append_getElem hk,List.reverse_append,List.reverse_singleton,List.singleton_append,ncl_cons_in,ih]
   obtain ⟨u,hu,hr⟩:=hs
   rw [getD_lt _ _ hk] at hr
   exact ⟨u,List.mem_reverse.2 hu,hr⟩
 | @lead k R c _ hk hs _ ih=>
   rw [List.take_succ_eq_append_getElem hk,List.reverse_append,List.reverse_singleton,List.singleton_append,ncl_cons_new,List.length_append,ih]
   ·rfl
   ·rintro ⟨u,hu,hr⟩
    rw [← getD_lt _ _ hk] at hr
    exact hs ⟨u,List.mem_reverse.1 hu,hr⟩
theorem PartsTo.all {g:Gr} {R:List (List Int)} (h:PartsTo g g.vs.length R):R.length=Eu.ncl (Reach g.es) g.vs:=by
 rw [h.ncl,List.take_length]
 exact ncl_perm (reach_eqv _) (List.reverse_perm _)
def SeenD (f:Int→Int) (ds:List Int) (k:Nat) (x:Int):Prop:=∃ y∈ds.take k,Orb f y x
inductive Lead (f:Int→Int) (ds:List Int):Nat→List (List Int)→Prop
 | zero:Lead f ds 0 []
 | seen {k:Nat} {R:List (List Int)} (h:Lead f ds k R) (hk:k < ds.length) (hs:SeenD f ds k (ds.getD k 0)):Lead f ds (k+1) R
 | lead {k:Nat} {R:List (List Int)} {c:List Int} (h:Lead f ds k R) (hk:k < ds.length) (hs:¬ SeenD f ds k (ds.getD k 0)) (hc:IsCyc f (ds.getD k 0) c):Lead f ds (k+1) (R++[c])
theorem Lead.len {f:Int→Int} {ds:List Int} {k:Nat} {R:List (List Int)} (h:Lead f ds k R):R.length≤k:=by
 induction h with
 | zero=>simp
 | seen _ _ _ ih=>omega
 | lead _ _ _ _ ih=>simp;omega
theorem Lead.ncl {f:Int→Int} {ds:List Int} {k:Nat} {R:List (List Int)} (h:Lead f ds k R):R.length=Eu.ncl (Orb f) (ds.take k).reverse:=by
 induction h with
 | zero=>rfl
 | @seen k R _ hk hs ih=>
   rw [List.take_succ_eq_append_getElem hk,List.reverse_append,List.reverse_singleton,List.singleton_append,ncl_cons_in,ih]
   obtain ⟨u,hu,hr⟩:=hs
   rw [getD_lt _ _ hk] at hr
   exact ⟨u,List.mem_reverse.2 hu,hr⟩
 | @lead k R c _ hk hs _ ih=>
   rw [List.take_succ_eq_append_getElem hk,List.reverse_append,List.reverse_singleton,List.singleton_append,ncl_cons_new,List.length_append,ih]
   ·rfl
   ·rintro ⟨u,hu,hr⟩
    rw [← getD_lt _ _ hk] at hr
    exact hs ⟨u,List.mem_reverse.1 hu,hr⟩
theorem Lead.all {f:Int→Int} (hf:Per f) {ds:List Int} {R:List (List Int)} (h:Lead f ds ds.length R):R.length=Eu.ncl (Orb f) ds:=by
 rw [h.ncl,List.take_length]
 exact ncl_perm hf.eqv (List.reverse_perm _)
theorem seenD_succ {f:Int→Int} {ds:List Int} {k:Nat} (hk:k < ds.length) {x:Int}:SeenD f ds (k+1) x↔SeenD f ds k x∨Orb f (ds.getD k 0) x:=by
 unfold SeenD
 rw [List.take_succ_eq_append_getElem hk,getD_lt _ _ hk]
 constructor
 ·rintro ⟨u,hu,hr⟩
  rw [List.mem_append,List.mem_singleton] at hu
  rcases hu with hu | rfl
  ·exact .inl ⟨u,hu,hr⟩
  ·exact .inr hr
 ·rintro (⟨u,hu,hr⟩ | hr)
  ·exact ⟨u,List.mem_append_left _ hu,hr⟩
  ·exact ⟨_,List.mem_append_right _ (List.mem_singleton.2 rfl),hr⟩
theorem seenD_same {f:Int→Int} {ds:List Int} {k:Nat} (hk:k < ds.length) (hs:SeenD f ds k (ds.getD k 0)) {x:Int}:SeenD f ds (k+1) x↔SeenD f ds k x:=by
 rw [seenD_succ hk]
 refine ⟨fun h=>h.elim id fun h=>?_,.inl⟩
 obtain ⟨y,hy,hr⟩:=hs
 exact ⟨y,hy,hr.trans h⟩
theorem cyc_lead {f:Int→Int} (hf:Per f) {ds:List Int} (hr:ds.Pairwise (· < ·)) (hd:∀ x∈ds,f x∈ds) {k:Nat} (hk:k < ds.length) {c:List Int} (hc:IsCyc f (ds.getD k 0) c):(¬ SeenD f ds k (ds.getD k 0))↔mn c=ds.getD k 0:=by
 have hin:∀ n x,x∈ds→it f n x∈ds:=by
  intro n
  induction n with
  | zero=>intro x hx;exact hx
  | succ n ih=>intro x hx;exact ih _ (hd x hx)
 have hx:ds.getD k 0∈ds:=by rw [getD_lt _ _ hk];exact List.getElem_mem _
 constructor
 ·intro hs
  refine mn_eq (hc.mem.2 (Orb.refl _ _)) fun y hy=>?_
  obtain ⟨n,hn⟩:=hc.mem.1 hy
  rcases Int.lt_or_le y (ds.getD k 0) with h1 | h1
  ·have hy2:y∈ds:=by rw [← hn];exact hin n _ hx
   exact absurd ⟨y,(take_lt hr hk).2 ⟨hy2,h1⟩,Orb.symm hf ⟨n,hn⟩⟩ hs
  ·exact h1
 ·rintro hm ⟨y,hy,hr2⟩
  have h1:=((take_lt hr hk).1 hy).2
  have:=mn_le (hc.mem.2 (Orb.symm hf hr2))
  omega
theorem nrm_of_head {c:List Int} {d:Int} {r:List Int} (h:c=d::r) (hm:mn c=d):nrm c=c:=by
 subst h
 unfold nrm
 rw [hm]
 simp [rt]
theorem IsCyc.head {f:Int→Int} {d:Int} {c:List Int} (h:IsCyc f d c):∃ r,c=d::r:=by
 obtain ⟨p,hp,rfl,_,_⟩:=h
 obtain ⟨q,rfl⟩:∃ q,p=q+1:=⟨p - 1,by omega⟩
 rw [List.range_succ_eq_map]
 exact ⟨_,rfl⟩
theorem nrm_head (c:List Int) (h:c≠[]):∃ r,nrm c=mn c::r:=by
 have hm:=mn_mem h
 have hlt:=List.idxOf_lt_length_of_mem hm
 have hl:0 < (nrm c).length:=by rw [nrm_length];omega
 have h0:=nrm_get c 0 (by omega)
 simp only [Nat.add_zero,Nat.mod_eq_of_lt hlt,List.getElem_idxOf] at h0
 cases hn:nrm c with
 | nil=>rw [hn] at hl;simp at hl
 | cons a r=>simp only [hn,List.getElem_cons_zero] at h0;rw [h0];exact ⟨r,rfl⟩
end Go.Proofs.YtglkgindpjdoiaaGreat.Aw
namespace Go.Proofs.YtglkgindpjdoiaaGreat.Aw
open Go Go.RowKit
set_option linter.unusedSimpArgs false
set_option linter.unusedVariables false
section
variable {P:Program} {T:Tab} {N:Nat} {Q:AQ} {fr:Frm} {st:St} {c:Code}
theorem rep_deads (w:World) (g:G):∀ vs:List Value,RepL w g (List.replicate vs.length .dead) vs
 | []=>by simp [RepL]
 | v::vs=>by
   simp only [List.length_cons,List.replicate_succ,RepL]
   exact ⟨v,vs,rfl,by simp only [Rep],rep_deads w g vs⟩
theorem awp_kap (d:Nat) {l n e s:Nat} {cs:List LV} (hd:fr d=.ms l 0 n) (hl:st.H l=.box e s cs)
 (h:∀ cap x,n≤cap→cs.length+x=cap * s→AWp P N c Q (upd fr d (.kap l n cap)) (st.set l (.box e s (cs++List.replicate x .dead)))):AWp P N c Q fr st:=by
 intro a w g hi hr hs hdf
 have hv:=hr d
 rw [hd] at hv
 simp only [Rep] at hv
 obtain ⟨A,cap,hv,h1,h2,h3,h4,h5⟩:=hv
 obtain ⟨h6,h7⟩:=h3 trivial
 obtain ⟨q1,q2,q3⟩:=hi.box l e s cs hl
 have hrk:Rep w g (.kap l n cap) (a.tmps.getD d undef):=by
  simp only [Rep]
  exact ⟨A,hv,h1,h2,h6.symm,h5,h7,fun hn=>by have:=(q2 hn).1;omega⟩
 have hr2:=repF_upd hr d hrk
 cases hnl:g.nl l with
 | true=>
   obtain ⟨k1,k2⟩:=q2 hnl
   have:=h cap 0 h1 (by rw [k2,h6,k1];simp) a w g (by
    rw [List.replicate_zero,List.append_nil,set_self hl];exact hi) hr2 hs hdf
   exact this
 | false=>
   obtain ⟨cur,k1,k2,k3,k4,k5⟩:=q3 hnl
   have hall:RepL w g (cs++List.replicate (cur.length - cs.length) .dead) cur:=by
    have:=repL_append _ _ _ _ k4 (rep_deads w g (cur.drop cs.length))
    rw [List.take_append_drop,List.length_drop] at this
    exact this
   have hlen:cs.length+(cur.length - cs.length)=cap * s:=by rw [h6,← k2];omega
   refine h cap _ h1 hlen a w g ?_ hr2 hs hdf
   have hlt:l < st.next:=by
    rcases Nat.lt_or_ge l st.next with h0 | h0
    ·exact h0
    ·have:=hi.fresh l h0;rw [hl] at this;cases this
   have hb:∀ x,blk g (st.set l (.box e s (cs++List.replicate (cur.length - cs.length) .dead))) x↔blk g st x:=by
    intro x
    unfold blk
    simp only [St.set]
    by_cases hx:x=l
    ·subst hx;simp [hl]
    ·rw [if_neg hx]
   refine ⟨hi.next,hi.pos,?_,fun x hx=>hi.lt x ((hb x).1 hx),fun x y hx hy=>hi.inj x y ((hb x).1 hx) ((hb y).1 hy),?_,?_,?_,?_⟩
   ·intro x hx
    simp only [St.set] at hx ⊢
    rw [if_neg (by omega)]
    exact hi.fresh x hx
   ·intro x e' s' n hx
    by_cases e0:x=l
    ·simp [St.set,e0] at hx
    ·simp only [St.set,if_neg e0] at hx
     exact hi.own x e' s' n hx
   ·intro x e' s' cs' hx
    by_cases e0:x=l
    ·simp only [St.set,if_pos e0] at hx
     injection hx with h1 h2 h3
     subst h1 h2 h3 e0
     refine ⟨q1,fun hn=>absurd hn (by rw [hnl];simp),fun _=>?_⟩
     have hle:(cs++List.replicate (cur.length - cs.length) LV.dead).length=cur.length:=by simp;omega
     refine ⟨cur,k1,k2,by omega,?_,k5⟩
     rw [hle,List.take_length];exact hall
    ·simp only [St.set,if_neg e0] at hx
     exact hi.box x e' s' cs' hx
   ·intro x ag ks es hx
    by_cases e0:x=l
    ·simp [St.set,e0] at hx
    ·simp only [St.set,if_neg e0] at hx
     exact hi.mp x ag ks es hx
   ·intro x e' n hx
    by_cases e0:x=l
    ·simp [St.set,e0] at hx
    ·simp only [St.set,if_neg e0] at hx
     exact hi.qu x e' n hx
theorem acalls_kap {f:FuncId} {args:List LV} {Q:LV→St→Prop} (h:ACalls P f args st fun r st'=>(∃ l n c,r=.kap l n c∧Q (.ms l 0 n) st')∨Q r st'):ACalls P f args st Q:=by
 refine ⟨h.1,fun w g vs hi hr=>(h.2 w g vs hi hr).mono ?_⟩
 rintro x w' ⟨v,r,st',g',rfl,hq,hrep,hi',he⟩
 rcases hq with ⟨l,n,c,rfl,hq⟩ | hq
 ·exact ⟨v,_,st',g',rfl,hq,rep_kap hrep,hi',he⟩
 ·exact ⟨v,r,st',g',rfl,hq,hrep,hi',he⟩
theorem acalls_shr {f:FuncId} {args:List LV} {Q:LV→St→Prop} (h:ACalls P f args st fun r st'=>∃ l e s cs k,st'.H l=.box e s cs∧Q r (st'.set l (.box e s (cs.take k)))):ACalls P f args st Q:=by
 refine ⟨h.1,fun w g vs hi hr=>(h.2 w g vs hi hr).mono ?_⟩
 rintro x w' ⟨v,r,st',g',rfl,⟨l,e,s,cs,k,hl,hq⟩,hrep,hi',he⟩
 exact ⟨v,r,_,g',rfl,hq,hrep,inv_shrink hi' k hl,he⟩
variable {ops:Array Oper} {M:List Nat} {o:Oper}
theorem aopsE_then (hT:TabOk P T) {Q:AQ} {suf:List Oper} {J:Frm→St→Prop} (hJ:∀ fr st,J fr st→AOps P N ops suf Q fr st):∀ (rest:List Oper) (fr:Frm) (st:St),regOk N ops rest=true→AOpsE P T N ops M J rest fr st→AOps P N ops (rest++suf) Q fr st
 | [],fr,st,_,h=>hJ _ _ h
 | o::rest,fr,st,hk,h=>by
   simp only [regOk,List.all_cons,Bool.and_eq_true] at hk
   obtain ⟨⟨hd,hg⟩,hk⟩:=hk
   have ih:=aopsE_then hT (Q:=Q) (suf:=suf) hJ rest
   have hk':regOk N ops rest=true:=hk
   unfold AOpsE at h
   rw [List.cons_append]
   cases hw:wantedL ops fr o.guard with
   | none=>rw [hw] at h;exact h.elim
   | some b=>
     rw [hw] at h
     cases b with
     | false=>exact aops_skip hw hg hd (ih _ _ hk' (h.2 rfl))
     | true=>
       have h1:=h.1 rfl
       split at h1
       ·rename_i x args tys hop
        split at h1
        ·rename_i f caps hf
         obtain ⟨R,hR,hn⟩:=h1
         exact aops_call hop hw hg hd hf hR (fun r st' hr=>ih _ _ hk' (hn r st' hr))
        ·exact h1.elim
       ·split at h1
        ·rename_i ng n hnc
         exact aops_nilCmp hT hnc hw hg hd (fun b hb=>ih _ _ hk' (h1 b hb))
        ·split at h1
         ·rename_i r hr
          exact aops_op hw hg hd (aop_sound hT hr h1.1) (ih _ _ hk' h1.2)
         ·exact h1.elim
theorem awp_regionX (hT:TabOk P T) (M:List Nat) (n:Nat) {Q:AQ} {id:Nat} {o:Oper} (ho:ops.toList[n]?=some o) (hk:regOk N ops ops.toList=true)
 (h:∀ J:Frm→St→Prop,(∀ fr st,Q .normal fr st→J fr st)→AOpsE P T N ops M (fun fr st=>∃ lv,wantedL ops fr o.guard=some true∧Op1 P N false o fr st lv st∧AOpsE P T N ops M J (ops.toList.drop (n+1)) (updO fr o.dst lv) st) (ops.toList.take n) fr st):
 AWp P N (.region id ops false) Q fr st:=by
 refine awp_region ?_
 have hn:n < ops.toList.length:=(List.getElem?_eq_some_iff.1 ho).1
 have hsp:ops.toList=ops.toList.take n++o::ops.toList.drop (n+1):=by
  have e:ops.toList[n]=o:=by rw [List.getElem?_eq_getElem hn] at ho;exact Option.some.inj ho
  rw [← e,← List.drop_eq_getElem_cons hn,List.take_append_drop]
 have hk2:regOk N ops (ops.toList.take n)=true∧(dstOk N o.dst=true∧guardOk N ops o.guard=true)∧regOk N ops (ops.toList.drop (n+1))=true:=by
  have hk':=hk
  rw [hsp] at hk'
  unfold regOk at hk' ⊢
  rw [List.all_append,List.all_cons] at hk'
  simpa [Bool.and_eq_true] using hk'
 rw [hsp]
 refine aopsE_then hT ?_ _ _ _ hk2.1 (h (fun fr st=>Q .normal fr st) fun _ _ h=>h)
 rintro fr st ⟨lv,h1,h2,h3⟩
 exact aops_op h1 hk2.2.1.2 hk2.2.1.1 h2 (aopsE_sound hT (fun _ _ h=>h) _ _ _ hk2.2.2 h3)
theorem op1_overlaps {f:FuncId} {fn:Func} {tS tR e s t l k n m:Nat} {x y:Operand} {tys:Array TypeId} {xs cs:List LV} (hT:TabOk P T) (hop:o.op=.call { callee:=.value (.func f),args:=#[x,y],argTypes:=tys })
 (hf:P.funcs[f]?=some fn) (hname:(fn.name== "runtime.NumGoroutine")=false) (hb:fn.body.isNone=true) (hn:Extern.findNext fn=none) (he:Extern.find fn=some (Extern.SlicesOverlaps.overlaps #[tS,tS] #[tR]))
 (hS:sliceE T tS=some e) {row:TRow} (hE:T e=some row) (hx:evalL fr x=.sl t m xs) (hy:evalL fr y=.ms l k n) (ht0:t≠0) (ht:st.H t=.own e s m) (hl:st.H l=.box e s cs) (hm:0 < m) (hn0:0 < n) (hsp:0 < s) (hcs:0 < cs.length):
 Op1 P N false o fr st (.atom (.bool false)) st:=by
 intro a w g hi hr hs
 have h1:=rep_eval hr x
 have h2:=rep_eval hr y
 rw [hx] at h1
 rw [hy] at h2
 simp only [Rep] at h1 h2
 obtain ⟨A,ca,hv,a1,a2,a3,_⟩:=h1
 obtain ⟨B,cb,hu,b1,b2,b3,b4,b5⟩:=h2
 obtain ⟨o1,o2,o3,o4⟩:=hi.own t e s m ht
 obtain ⟨q1,q2,q3⟩:=hi.box l e s cs hl
 have hnt:g.nl t=false:=by
  cases hnt:g.nl t with
  | false=>rfl
  | true=>have:=o3 hnt;omega
 have hnl:g.nl l=false:=by
  cases hnl:g.nl l with
  | false=>rfl
  | true=>have:=(q2 hnl).2;subst this;simp at hcs
 obtain ⟨cur,c1,c2,c3⟩:=o4 hnt
 obtain ⟨cur',d1,d2,d3,d4,d5⟩:=q3 hnl
 obtain ⟨e1,e2,e3⟩:=a3 ht0
 have e1:=e1 hnt
 subst e1
 have b4:=b4 (by omega)
 subst b4
 have hne:g.β t≠g.β l:=fun h0=>by
  have:=hi.inj t l (by unfold blk;rw [ht];exact hnt) (by unfold blk;rw [hl];exact hnl) h0
  subst this
  rw [ht] at hl;cases hl
 have hrow:=hT e row hE
 refine ⟨.value (.bool false),w,g,?_,.inl ⟨_,rfl,by simp only [Rep]⟩,hi,Ext.refl w g,fun h=>by cases h⟩
 have hkB:cur'.toArray.size≠0:=by simp only [List.size_toArray];omega
 have hrun:=Lib.run_overlaps_apart (P:=P) w tS tR e (sliceE_ok hT hS) row.size hrow.sizeOf ⟨g.β t,0,none⟩ ⟨g.β l,k,none⟩ m ca n cb hne e e cur.size cur'.toArray.size (by simp [World.shape?,c1]) (by simp [World.shape?,d1]) hkB (by simp [World.frozen?,c1]) (by simp [World.frozen?,c1])
 have hcf:=run_callFunc_extern hf hname hb hn he #[.slice (some ⟨g.β t,0,none⟩) m ca,.slice (some ⟨g.β l,k,none⟩) n cb] w
 rw [hrun,Result.andThen_ok] at hcf
 unfold execOp
 simp only [hop,resolve,invoke,Act.eval,Deferred.ofValue,Sem.run_bind,Sem.run_pure,Result.andThen_ok]
 have hv':a.eval x=_:=hv
 have hu':a.eval y=_:=hu
 simp [hv',hu',hcf]
end
theorem w_x {N:Nat} {Q:AQ} {fr:Frm} {st:St} {id:Nat} {ops:Array Oper} (M:List Nat) (n:Nat) {o:Oper} (ho:ops.toList[n]?=some o)
 (h:∀ J:Frm→St→Prop,(∀ fr st,Q .normal fr st→J fr st)→AOpsE Tryz.prog tab N ops M (fun fr st=>∃ lv,wantedL ops fr o.guard=some true∧Op1 Tryz.prog N false o fr st lv st∧AOpsE Tryz.prog tab N ops M J (ops.toList.drop (n+1)) (updO fr o.dst lv) st) (ops.toList.take n) fr st) (hk:regOk N ops ops.toList=true:=by exact rfl):
 AWp Tryz.prog N (.region id ops false) Q fr st:=awp_regionX tabOk M n ho hk h
end Go.Proofs.YtglkgindpjdoiaaGreat.Aw
namespace Go.Proofs.YtglkgindpjdoiaaGreat.Aw
open Go Go.RowKit Go.Proofs.YtglkgindpjdoiaaGreat.Pl
set_option linter.unusedSimpArgs false
set_option linter.unusedVariables false
structure InsQ (l n E S:Nat) (cs:List LV) (st:St) (r:LV) (st':St):Prop where
 ex:∃ l',r=.ms l' 0 n∧st'.H l'=.box E S cs∧l' < st'.next∧(l'=l∨st.next≤l')∧∀ x,x < st.next→x≠l→st'.H x=st.H x
 next:st.next≤st'.next
theorem ins_grow {a b S:Nat} {P Z xs cs:List LV} (ha:a≤b) (hc:cs.length=b) (hP:P=cs.take a) (hZ:Z.length=b+S - a) (hx:xs.length=S):
 ((P++Z).take a++(xs++(P++Z).drop (a+S))).take (a+S)++(cs.drop a++((P++Z).take a++(xs++(P++Z).drop (a+S))).drop (b+S))=cs.take a++(xs++cs.drop a):=by
 have hPl:P.length=a:=by rw [hP,List.length_take];omega
 have e1:(P++Z).take a=P:=by rw [← hPl,List.take_left]
 rw [e1]
 have e2:(P++(xs++(P++Z).drop (a+S))).take (a+S)=P++xs:=by
  rw [← List.append_assoc,List.take_left' (by simp;omega)]
 have e3:(P++(xs++(P++Z).drop (a+S))).drop (b+S)=[]:=List.drop_of_length_le (by simp;omega)
 rw [e2,e3,List.append_nil,hP,List.append_assoc]
theorem ins_room {a b S:Nat} {B xs cs Y Z:List LV} (ha:a≤b) (hc:cs.length=b) (hB:B.take a=cs.take a) (hx:xs.length=S) (hBl:b+S≤B.length):
 ((B.take (a+S)++Y).take a++(xs++(cs.drop a++Z))).take (b+S)=cs.take a++(xs++cs.drop a):=by
 have e1:(B.take (a+S)++Y).take a=cs.take a:=by
  rw [List.take_append_of_le_length (by simp;omega),List.take_take,Nat.min_eq_left (by omega),hB]
 rw [e1,← List.append_assoc xs,← List.append_assoc,List.take_left' (by simp;omega)]
theorem InsertU (l n k t:Nat) (cs xs:List LV) (st:St) (hn:n≤100000) (hk:k≤n) (hc:cs.length=n) (hx:xs.length=1) (hone:cs.all oneL=true) (honex:xs.all oneL=true) (ht0:t≠0) (ht:st.H t=.own 29 1 1) (hl:st.H l=.box 29 1 cs) (hlt:l < st.next):
 ACalls Tryz.prog 96 [.ms l 0 n,i k,.sl t 1 xs] st (InsQ l (n+1) 29 1 (cs.take k++(xs++cs.drop k)) st):=by
 refine acalls_kap (acalls_shr ?_)
 refine qO tabOk Tryz.func96 rfl rfl Tryz.ntmps96 (rs:=[.tmp 6]) rfl (by simp) ?_
 refine awp_kap 0 rfl hl fun cap x hcap hcx=>?_
 have hBk:∀ j,j≤n→(cs++List.replicate x LV.dead).take j=cs.take j:=fun j hj=>by rw [List.take_append_of_le_length (by omega)]
 have hBd:((cs++List.replicate x LV.dead).drop k).take (n - k)=cs.drop k:=by rw [List.drop_append_of_le_length (by omega),List.take_append_of_le_length (by simp;omega),List.take_of_length_le (by simp;omega)]
 have hBl:(cs++List.replicate x LV.dead).length=cap:=by simp;omega
 generalize cs++List.replicate x LV.dead=B at *
 have hw1:IntKind.i64.wrap (1:Int)=1:=by decide
 have hwn:IntKind.i64.wrap ((n:Int)+1)=(n:Int)+1:=wrap_small _ (by omega) (by omega)
 have hwk:IntKind.i64.wrap ((k:Int)+1)=(k:Int)+1:=wrap_small _ (by omega) (by omega)
 have hwd:IntKind.i64.wrap ((n:Int)+1 - k)=(n:Int)+1 - k:=wrap_small _ (by omega) (by omega)
 have hne:¬ t=l:=by rintro rfl;rw [ht] at hl;cases hl
 have hne2:¬ l=st.next:=by omega
 have honed:(cs.drop k).all oneL=true:=List.all_eq_true.2 fun y hy=>List.all_eq_true.1 hone y (List.mem_of_mem_drop hy)
 by_cases hkn:k=n
 ·subst hkn
  (repeat' (first | refine qS ?_ | (refine qK ?_;simp only [ak,reduceIte]) | (refine qR ?_;simp only [ak,reduceIte];simp [hx,honex,hBl]) | (refine qC ?_;simp [hx,honex,hBl]) | (refine w_e [] ?_;intro J hJ;simp only [];simp [hx,honex,hBl];(repeat refine ca ?_);(refine hJ _ _ ?_;clear hJ J;simp only [ak,reduceIte]))))
  refine ⟨st.next,_,_,_,if_pos rfl,k+1,?_⟩
  refine ⟨⟨st.next,rfl,?_,by simp,.inr (Nat.le_refl _),fun y hy hyl=>by simp [show ¬ y=st.next by omega,hyl]⟩,by simp⟩
  rw [hBk k (by omega),List.take_of_length_le (by omega),List.take_of_length_le (by simp;omega),List.drop_of_length_le (by omega)]
  simp
 have hkn':¬ (k:Int)=n:=by omega
 by_cases hroom:cap < n+1
 ·have hr1:(cap:Int) < (n:Int)+1:=by omega
  have hs1:k+(n+1 - k)=n+1:=by omega
  have hs2:((n:Int)+1).toNat=n+1:=by omega
  have hs3:min (n+1 - k) 1=1:=by omega
  have hs5:k+1+(n - k)=n+1:=by omega
  have hs4:min (n - k) (n - k)=n - k:=by omega
  have hzl:∀ z:LV,∀ j,(zerosL [z] j).length=j:=fun z j=>by
   induction j with
   | zero=>rfl
   | succ j ih=>simp [zerosL,ih]
  have hzl:=hzl (.atom (.int .u32 0))
  generalize hZ:zerosL [LV.atom (.int .u32 0)]=Z at *
  (repeat' (first | refine qS ?_ | (refine qK ?_;simp only [ak,reduceIte]) | (refine qC ?_;simp [hkn',hr1,hwn,hwd,hs1,hs2,hs3,hx,honex,hBl,hzl,hZ]) | (refine w_e [] ?_;intro J hJ;simp only [];simp [hkn',hr1,hwn,hwd,hs1,hs2,hs3,hx,honex,hBl,hzl,hZ];(repeat refine ca ?_);(refine hJ _ _ ?_;clear hJ J;simp only [ak,reduceIte]))))
  (refine w_s [] [] [(0,true),(1,true),(2,true),(3,true),(4,true),(5,true),(6,true),(7,true),(8,false)] ?_;intro J hJ;simp [hc,hwk,hs1,hs2,hs4,hs5,hx,hBl,hBd,honed,hzl,hne2];(repeat refine ca ?_);(refine hJ _ _ ?_;clear hJ J;simp only [ak,reduceIte]))
  (repeat' (first | refine qS ?_ | (refine qR ?_;simp only [ak,reduceIte];simp []) | (refine w_e [] ?_;intro J hJ;simp only [];simp [];(refine hJ _ _ ?_;clear hJ J;simp only [ak,reduceIte]))))
  refine ⟨st.next,_,_,_,if_pos rfl,n+1,⟨⟨st.next,rfl,?_,by simp,.inr (Nat.le_refl _),fun y hy hyl=>by simp [show ¬ y=st.next by omega,hyl]⟩,by simp⟩⟩
  rw [ins_grow (a:=k) (b:=n) (S:=1) hk hc (hBk k hk) (hzl _) hx,set_H,if_pos rfl,List.take_of_length_le (by simp;omega)]
 ·have hr1:¬ (cap:Int) < (n:Int)+1:=by omega
  have hs2:((n:Int)+1).toNat=n+1:=by omega
  have hs5:k+1+(n - k)=n+1:=by omega
  have hs6:min (n - k) (n+1 - k)=n - k:=by omega
  have hs7:min (n+1 - k) (cap - k)=n+1 - k:=by omega
  have hBd2:List.take (n - k) (List.take (n+1 - k) (List.drop k B))=cs.drop k:=by rw [List.take_take,hs6];exact hBd
  (repeat' (first | refine qS ?_ | (refine w_e [] ?_;intro J hJ;simp only [];simp [hkn',hr1,hwn,hwk];(repeat refine ca ?_);(refine hJ _ _ ?_;clear hJ J;simp only [ak,reduceIte]))))
  (refine qC ?_;simp [])
  (repeat' (first | refine qS ?_ | (refine qK ?_;simp only [ak,reduceIte]) | (refine w_e [] ?_;intro J hJ;simp only [];simp [hkn',hr1,hwn,hwk];(refine hJ _ _ ?_;clear hJ J;simp only [ak,reduceIte]))))
  (refine qC ?_;simp [hkn'])
  (repeat' (first | refine qS ?_ | (refine qK ?_;simp only [ak,reduceIte]) | (refine w_e [] ?_;intro J hJ;simp only [];simp [hkn',hr1,hwn,hwk];(refine hJ _ _ ?_;clear hJ J;simp only [ak,reduceIte]))))
  (refine qC ?_;simp [hr1])
  refine qK ?_;simp only [ak,reduceIte]
  refine qS ?_
  (refine w_e [] ?_;intro J hJ;simp only [];simp [hwn];(repeat refine ca ?_);(refine hJ _ _ ?_;clear hJ J;simp only [ak,reduceIte]))
  repeat refine qS ?_
  refine w_x [] 6 rfl ?_
  intro J hJ
  simp [hwk]
  (repeat refine ca ?_)
  refine ⟨_,op1_overlaps (tS:=22) (tR:=4) tabOk rfl (Tryz.func123) (by kernel_rfl) (by kernel_rfl) (by kernel_rfl) (by kernel_rfl) rfl rfl rfl rfl ht0 (by simp [hne];exact ht) (show _=LObj.box 29 1 B by simp) (by omega) (by first | omega | (simp [hwk,hwn];omega)) (by omega) (by omega),?_⟩
  simp
  refine hJ _ _ ?_;clear hJ J;simp only [ak,reduceIte]
  (repeat' (first | refine qS ?_ | (refine qC ?_;simp [])))
  (refine w_s [] [] [(0,true),(1,true),(2,true),(3,true),(4,true),(5,true),(6,true),(7,true),(8,false)] ?_;intro J hJ;simp [hc,hwk,hs2,hs6,hs7,hs5,hx,hBl,hBd2,honed];(repeat refine ca ?_);(refine hJ _ _ ?_;clear hJ J;simp only [ak,reduceIte]))
  have hs8:min (n+1 - k) 1=1:=by omega
  have hs9:k+1+(n - k+(cap - (n+1)))=cap:=by omega
  have hs10:min (k+1) cap=k+1:=by omega
  (repeat' (first | refine qS ?_ | (refine qR ?_;simp only [ak,reduceIte];simp [hx,honex,hBl,hc,hs8,hs9,hs10]) | (refine w_e [] ?_;intro J hJ;simp only [];simp [hx,honex,hBl,hc,hs8,hs9,hs10];(repeat refine ca ?_);(refine hJ _ _ ?_;clear hJ J;simp only [ak,reduceIte]))))
  refine ⟨l,_,_,_,if_pos rfl,n+1,.inl ⟨_,_,⟨rfl,rfl⟩,⟨⟨l,rfl,?_,by simp;omega,.inl rfl,fun y hy hyl=>by simp [hyl]⟩,by simp⟩⟩⟩
  rw [ins_room (a:=k) (b:=n) (S:=1) hk hc (hBk k hk) hx (by omega),set_H,if_pos rfl]
theorem ins_growX {a b S p p' q:Nat} {P Z xs cs:List LV} (ha:a≤b) (hc:cs.length=b) (hP:P=cs.take a) (hZ:Z.length=b+S - a) (hx:xs.length=S) (hp:p=a+S) (hp':p'=a+S) (hq:q=b+S):
 (P++(xs++(P++Z).drop p')).take p++(cs.drop a++(P++(xs++(P++Z).drop p')).drop q)=cs.take a++(xs++cs.drop a):=by
 subst hp hp' hq
 have:=ins_grow ha hc hP hZ hx
 rwa [List.take_left' (l₁:=P) (l₂:=Z) (by rw [hP,List.length_take];omega)] at this
theorem ins_roomX {a b S p p' q:Nat} {B xs cs Z:List LV} (ha:a≤b) (hc:cs.length=b) (hB:B.take a=cs.take a) (hx:xs.length=S) (hBl:b+S≤B.length) (hp:p=a+S) (hp':p'=a+S) (hq:q=b+S):
 ((B.take p++(cs.drop a++Z)).take a++(xs++(B.take p++(cs.drop a++Z)).drop p')).take q=cs.take a++(xs++cs.drop a):=by
 subst hp hp' hq
 have e2:(B.take (a+S)++(cs.drop a++Z)).drop (a+S)=cs.drop a++Z:=List.drop_left' (by simp;omega)
 rw [e2]
 exact ins_room ha hc hB hx hBl
theorem InsertE (l n k t:Nat) (cs xs:List LV) (st:St) (hn:n≤100000) (hk:k≤n) (hc:cs.length=n * 3) (hx:xs.length=3) (hone:cs.all oneL=true) (honex:xs.all oneL=true) (ht0:t≠0) (ht:st.H t=.own 31 3 1) (hl:st.H l=.box 31 3 cs) (hlt:l < st.next):
 ACalls Tryz.prog 104 [.ms l 0 n,i k,.sl t 1 xs] st (InsQ l (n+1) 31 3 (cs.take (k * 3)++(xs++cs.drop (k * 3))) st):=by
 refine acalls_kap (acalls_shr ?_)
 refine qO tabOk Tryz.func104 rfl rfl Tryz.ntmps104 (rs:=[.tmp 6]) rfl (by simp) ?_
 refine awp_kap 0 rfl hl fun cap x hcap hcx=>?_
 have hBk:∀ j,j≤n→(cs++List.replicate x LV.dead).take (j * 3)=cs.take (j * 3):=fun j hj=>by rw [List.take_append_of_le_length (by omega)]
 have hBd:((cs++List.replicate x LV.dead).drop (k * 3)).take ((n - k) * 3)=cs.drop (k * 3):=by rw [List.drop_append_of_le_length (by omega),List.take_append_of_le_length (by simp;omega),List.take_of_length_le (by simp;omega)]
 have hBl:(cs++List.replicate x LV.dead).length=cap * 3:=by simp;omega
 generalize cs++List.replicate x LV.dead=B at *
 have hw1:IntKind.i64.wrap (1:Int)=1:=by decide
 have hwn:IntKind.i64.wrap ((n:Int)+1)=(n:Int)+1:=wrap_small _ (by omega) (by omega)
 have hwk:IntKind.i64.wrap ((k:Int)+1)=(k:Int)+1:=wrap_small _ (by omega) (by omega)
 have hwd:IntKind.i64.wrap ((n:Int)+1 - k)=(n:Int)+1 - k:=wrap_small _ (by omega) (by omega)
 have hBd3:List.take ((n - k) * 3) (List.drop (k * 3) cs)=cs.drop (k * 3):=List.take_of_length_le (by simp;omega)
 have hmk:min k cap=k:=by omega
 have hne:¬ t=l:=by rintro rfl;rw [ht] at hl;cases hl
 have hne2:¬ l=st.next:=by omega
 have honed:(cs.drop (k * 3)).all oneL=true:=List.all_eq_true.2 fun y hy=>List.all_eq_true.1 hone y (List.mem_of_mem_drop hy)
 by_cases hkn:k=n
 ·subst hkn
  (repeat' (first | refine qS ?_ | (refine qK ?_;simp only [ak,reduceIte]) | (refine qR ?_;simp only [ak,reduceIte];simp [hx,honex,hBl]) | (refine qC ?_;simp [hx,honex,hBl]) | (refine w_e [] ?_;intro J hJ;simp only [];simp [hx,honex,hBl];(repeat refine ca ?_);(refine hJ _ _ ?_;clear hJ J;simp only [ak,reduceIte]))))
  refine ⟨st.next,_,_,_,if_pos rfl,(k+1) * 3,?_⟩
  refine ⟨⟨st.next,rfl,?_,by simp,.inr (Nat.le_refl _),fun y hy hyl=>by simp [show ¬ y=st.next by omega,hyl]⟩,by simp⟩
  rw [hBk k (by omega),List.take_of_length_le (by omega),List.take_of_length_le (by simp;omega),List.drop_of_length_le (by omega)]
  simp
 have hkn':¬ (k:Int)=n:=by omega
 by_cases hroom:cap < n+1
 ·have hr1:(cap:Int) < (n:Int)+1:=by omega
  have hs1:k+(n+1 - k)=n+1:=by omega
  have hs2:((n:Int)+1).toNat=n+1:=by omega
  have hs3:min (n+1 - k) 1=1:=by omega
  have hs5:k+1+(n - k)=n+1:=by omega
  have hs4:min (n - k) (n - k)=n - k:=by omega
  have hzl:∀ z:LV,∀ j,(zerosL [z,z,z] j).length=j * 3:=fun z j=>by
   induction j with
   | zero=>rfl
   | succ j ih=>simp [zerosL,ih];omega
  have hzl:=hzl (u 0)
  generalize hZ:zerosL [u 0,u 0,u 0]=Z at *
  (repeat' (first | refine qS ?_ | (refine qK ?_;simp only [ak,reduceIte]) | (refine qC ?_;simp [hkn',hr1,hwn,hwd,hs1,hs2,hs3,hx,honex,hBl,hzl,hZ]) | (refine w_e [] ?_;intro J hJ;simp only [];simp [hkn',hr1,hwn,hwd,hs1,hs2,hs3,hx,honex,hBl,hzl,hZ];(repeat refine ca ?_);(refine hJ _ _ ?_;clear hJ J;simp only [ak,reduceIte]))))
  (refine w_s [] [] [(0,true),(1,true),(2,true),(3,true),(4,true),(5,true),(6,true),(7,true),(8,false)] ?_;intro J hJ;simp [hc,hwk,hs1,hs2,hs4,hs5,hx,hBl,hBd,hBd3,hmk,honed,hzl,hne2];(repeat refine ca ?_);(refine hJ _ _ ?_;clear hJ J;simp only [ak,reduceIte]))
  (repeat' (first | refine qS ?_ | (refine qR ?_;simp only [ak,reduceIte];simp []) | (refine w_e [] ?_;intro J hJ;simp only [];simp [];(refine hJ _ _ ?_;clear hJ J;simp only [ak,reduceIte]))))
  refine ⟨st.next,_,_,_,if_pos rfl,(n+1) * 3,⟨⟨st.next,rfl,?_,by simp,.inr (Nat.le_refl _),fun y hy hyl=>by simp [show ¬ y=st.next by omega,hyl]⟩,by simp⟩⟩
  rw [ins_growX (a:=k * 3) (b:=n * 3) (S:=3) (p:=(k+1) * 3) (p':=k * 3+3) (q:=(k+1) * 3+(n - k) * 3) (by omega) hc (hBk k hk) (by rw [hzl];omega) hx (by omega) rfl (by omega),set_H,if_pos rfl,List.take_of_length_le (by simp;omega)]
 ·have hr1:¬ (cap:Int) < (n:Int)+1:=by omega
  have hs2:((n:Int)+1).toNat=n+1:=by omega
  have hs5:k+1+(n - k)=n+1:=by omega
  have hs6:min (n - k) (n+1 - k)=n - k:=by omega
  have hs7:min (n+1 - k) (cap - k)=n+1 - k:=by omega
  have hBd2:List.take ((n - k) * 3) (List.take ((n+1 - k) * 3) (List.drop (k * 3) B))=cs.drop (k * 3):=by rw [List.take_take,Nat.min_eq_left (by omega)];exact hBd
  (repeat' (first | refine qS ?_ | (refine w_e [] ?_;intro J hJ;simp only [];simp [hkn',hr1,hwn,hwk];(repeat refine ca ?_);(refine hJ _ _ ?_;clear hJ J;simp only [ak,reduceIte]))))
  (refine qC ?_;simp [])
  (repeat' (first | refine qS ?_ | (refine qK ?_;simp only [ak,reduceIte]) | (refine w_e [] ?_;intro J hJ;simp only [];simp [hkn',hr1,hwn,hwk];(refine hJ _ _ ?_;clear hJ J;simp only [ak,reduceIte]))))
  (refine qC ?_;simp [hkn'])
  (repeat' (first | refine qS ?_ | (refine qK ?_;simp only [ak,reduceIte]) | (refine w_e [] ?_;intro J hJ;simp only [];simp [hkn',hr1,hwn,hwk];(refine hJ _ _ ?_;clear hJ J;simp only [ak,reduceIte]))))
  (refine qC ?_;simp [hr1])
  refine qK ?_;simp only [ak,reduceIte]
  refine qS ?_
  (refine w_e [] ?_;intro J hJ;simp only [];simp [hwn];(repeat refine ca ?_);(refine hJ _ _ ?_;clear hJ J;simp only [ak,reduceIte]))
  repeat refine qS ?_
  refine w_x [] 6 rfl ?_
  intro J hJ
  simp [hwk]
  (repeat refine ca ?_)
  refine ⟨_,op1_overlaps (tS:=23) (tR:=4) tabOk rfl (Tryz.func129) (by kernel_rfl) (by kernel_rfl) (by kernel_rfl) (by kernel_rfl) rfl rfl rfl rfl ht0 (by simp [hne];exact ht) (show _=LObj.box 31 3 B by simp) (by omega) (by first | omega | (simp [hwk,hwn];omega)) (by omega) (by omega),?_⟩
  simp
  refine hJ _ _ ?_;clear hJ J;simp only [ak,reduceIte]
  (repeat' (first | refine qS ?_ | (refine qC ?_;simp [])))
  (refine w_s [] [] [(0,true),(1,true),(2,true),(3,true),(4,true),(5,true),(6,true),(7,true),(8,false)] ?_;intro J hJ;simp [hc,hwk,hs2,hs6,hs7,hs5,hx,hBl,hBd2,honed];(repeat refine ca ?_);(refine hJ _ _ ?_;clear hJ J;simp only [ak,reduceIte]))
  have hs8:min (n+1 - k) 1=1:=by omega
  have hs9:k+1+(n - k+(cap - (n+1)))=cap:=by omega
  have hs10:min (k+1) cap=k+1:=by omega
  (repeat' (first | refine qS ?_ | (refine qR ?_;simp only [ak,reduceIte];simp [hx,honex,hBl,hc,hs8,hs9,hs10]) | (refine w_e [] ?_;intro J hJ;simp only [];simp [hx,honex,hBl,hc,hs8,hs9,hs10];(repeat refine ca ?_);(refine hJ _ _ ?_;clear hJ J;simp only [ak,reduceIte]))))
  refine ⟨l,_,_,_,if_pos rfl,(n+1) * 3,.inl ⟨_,_,⟨rfl,rfl⟩,⟨⟨l,rfl,?_,by simp;omega,.inl rfl,fun y hy hyl=>by simp [hyl]⟩,by simp⟩⟩⟩
  rw [ins_roomX (a:=k * 3) (b:=n * 3) (S:=3) (p:=(k+1) * 3) (p':=k * 3+3) (q:=(n+1) * 3) (by omega) hc (hBk k hk) hx (by omega) (by omega) rfl (by omega),set_H,if_pos rfl]
theorem InsertR (l n k t:Nat) (cs xs:List LV) (st:St) (hn:n≤100000) (hk:k≤n) (hc:cs.length=n) (hx:xs.length=1) (hone:cs.all oneL=true) (honex:xs.all oneL=true) (ht0:t≠0) (ht:st.H t=.own 22 1 1) (hl:st.H l=.box 22 1 cs) (hlt:l < st.next):
 ACalls Tryz.prog 97 [.ms l 0 n,i k,.sl t 1 xs] st (InsQ l (n+1) 22 1 (cs.take k++(xs++cs.drop k)) st):=by
 refine acalls_kap (acalls_shr ?_)
 refine qO tabOk Tryz.func97 rfl rfl Tryz.ntmps97 (rs:=[.tmp 6]) rfl (by simp) ?_
 refine awp_kap 0 rfl hl fun cap x hcap hcx=>?_
 have hBk:∀ j,j≤n→(cs++List.replicate x LV.dead).take j=cs.take j:=fun j hj=>by rw [List.take_append_of_le_length (by omega)]
 have hBd:((cs++List.replicate x LV.dead).drop k).take (n - k)=cs.drop k:=by rw [List.drop_append_of_le_length (by omega),List.take_append_of_le_length (by simp;omega),List.take_of_length_le (by simp;omega)]
 have hBl:(cs++List.replicate x LV.dead).length=cap:=by simp;omega
 generalize cs++List.replicate x LV.dead=B at *
 have hw1:IntKind.i64.wrap (1:Int)=1:=by decide
 have hwn:IntKind.i64.wrap ((n:Int)+1)=(n:Int)+1:=wrap_small _ (by omega) (by omega)
 have hwk:IntKind.i64.wrap ((k:Int)+1)=(k:Int)+1:=wrap_small _ (by omega) (by omega)
 have hwd:IntKind.i64.wrap ((n:Int)+1 - k)=(n:Int)+1 - k:=wrap_small _ (by omega) (by omega)
 have hne:¬ t=l:=by rintro rfl;rw [ht] at hl;cases hl
 have hne2:¬ l=st.next:=by omega
 have honed:(cs.drop k).all oneL=true:=List.all_eq_true.2 fun y hy=>List.all_eq_true.1 hone y (List.mem_of_mem_drop hy)
 by_cases hkn:k=n
 ·subst hkn
  (repeat' (first | refine qS ?_ | (refine qK ?_;simp only [ak,reduceIte]) | (refine qR ?_;simp only [ak,reduceIte];simp [hx,honex,hBl]) | (refine qC ?_;simp [hx,honex,hBl]) | (refine w_e [] ?_;intro J hJ;simp only [];simp [hx,honex,hBl];(repeat refine ca ?_);(refine hJ _ _ ?_;clear hJ J;simp only [ak,reduceIte]))))
  refine ⟨st.next,_,_,_,if_pos rfl,k+1,?_⟩
  refine ⟨⟨st.next,rfl,?_,by simp,.inr (Nat.le_refl _),fun y hy hyl=>by simp [show ¬ y=st.next by omega,hyl]⟩,by simp⟩
  rw [hBk k (by omega),List.take_of_length_le (by omega),List.take_of_length_le (by simp;omega),List.drop_of_length_le (by omega)]
  simp
 have hkn':¬ (k:Int)=n:=by omega
 by_cases hroom:cap < n+1
 ·have hr1:(cap:Int) < (n:Int)+1:=by omega
  have hs1:k+(n+1 - k)=n+1:=by omega
  have hs2:((n:Int)+1).toNat=n+1:=by omega
  have hs3:min (n+1 - k) 1=1:=by omega
  have hs5:k+1+(n - k)=n+1:=by omega
  have hs4:min (n - k) (n - k)=n - k:=by omega
  have hzl:∀ z:LV,∀ j,(zerosL [z] j).length=j:=fun z j=>by
   induction j with
   | zero=>rfl
   | succ j ih=>simp [zerosL,ih]
  have hzl:=hzl .nil
  generalize hZ:zerosL [LV.nil]=Z at *
  (repeat' (first | refine qS ?_ | (refine qK ?_;simp only [ak,reduceIte]) | (refine qC ?_;simp [hkn',hr1,hwn,hwd,hs1,hs2,hs3,hx,honex,hBl,hzl,hZ]) | (refine w_e [] ?_;intro J hJ;simp only [];simp [hkn',hr1,hwn,hwd,hs1,hs2,hs3,hx,honex,hBl,hzl,hZ];(repeat refine ca ?_);(refine hJ _ _ ?_;clear hJ J;simp only [ak,reduceIte]))))
  (refine w_s [] [] [(0,true),(1,true),(2,true),(3,true),(4,true),(5,true),(6,true),(7,true),(8,false)] ?_;intro J hJ;simp [hc,hwk,hs1,hs2,hs4,hs5,hx,hBl,hBd,honed,hzl,hne2];(repeat refine ca ?_);(refine hJ _ _ ?_;clear hJ J;simp only [ak,reduceIte]))
  (repeat' (first | refine qS ?_ | (refine qR ?_;simp only [ak,reduceIte];simp []) | (refine w_e [] ?_;intro J hJ;simp only [];simp [];(refine hJ _ _ ?_;clear hJ J;simp only [ak,reduceIte]))))
  refine ⟨st.next,_,_,_,if_pos rfl,n+1,⟨⟨st.next,rfl,?_,by simp,.inr (Nat.le_refl _),fun y hy hyl=>by simp [show ¬ y=st.next by omega,hyl]⟩,by simp⟩⟩
  rw [ins_grow (a:=k) (b:=n) (S:=1) hk hc (hBk k hk) (hzl _) hx,set_H,if_pos rfl,List.take_of_length_le (by simp;omega)]
 ·have hr1:¬ (cap:Int) < (n:Int)+1:=by omega
  have hs2:((n:Int)+1).toNat=n+1:=by omega
  have hs5:k+1+(n - k)=n+1:=by omega
  have hs6:min (n - k) (n+1 - k)=n - k:=by omega
  have hs7:min (n+1 - k) (cap - k)=n+1 - k:=by omega
  have hBd2:List.take (n - k) (List.take (n+1 - k) (List.drop k B))=cs.drop k:=by rw [List.take_take,hs6];exact hBd
  (repeat' (first | refine qS ?_ | (refine w_e [] ?_;intro J hJ;simp only [];simp [hkn',hr1,hwn,hwk];(repeat refine ca ?_);(refine hJ _ _ ?_;clear hJ J;simp only [ak,reduceIte]))))
  (refine qC ?_;simp [])
  (repeat' (first | refine qS ?_ | (refine qK ?_;simp only [ak,reduceIte]) | (refine w_e [] ?_;intro J hJ;simp only [];simp [hkn',hr1,hwn,hwk];(refine hJ _ _ ?_;clear hJ J;simp only [ak,reduceIte]))))
  (refine qC ?_;simp [hkn'])
  (repeat' (first | refine qS ?_ | (refine qK ?_;simp only [ak,reduceIte]) | (refine w_e [] ?_;intro J hJ;simp only [];simp [hkn',hr1,hwn,hwk];(refine hJ _ _ ?_;clear hJ J;simp only [ak,reduceIte]))))
  (refine qC ?_;simp [hr1])
  refine qK ?_;simp only [ak,reduceIte]
  refine qS ?_
  (refine w_e [] ?_;intro J hJ;simp only [];simp [hwn];(repeat refine ca ?_);(refine hJ _ _ ?_;clear hJ J;simp only [ak,reduceIte]))
  repeat refine qS ?_
  refine w_x [] 6 rfl ?_
  intro J hJ
  simp [hwk]
  (repeat refine ca ?_)
  refine ⟨_,op1_overlaps (tS:=26) (tR:=4) tabOk rfl (Tryz.func125) (by kernel_rfl) (by kernel_rfl) (by kernel_rfl) (by kernel_rfl) rfl rfl rfl rfl ht0 (by simp [hne];exact ht) (show _=LObj.box 22 1 B by simp) (by omega) (by first | omega | (simp [hwk,hwn];omega)) (by omega) (by omega),?_⟩
  simp
  refine hJ _ _ ?_;clear hJ J;simp only [ak,reduceIte]
  (repeat' (first | refine qS ?_ | (refine qC ?_;simp [])))
  (refine w_s [] [] [(0,true),(1,true),(2,true),(3,true),(4,true),(5,true),(6,true),(7,true),(8,false)] ?_;intro J hJ;simp [hc,hwk,hs2,hs6,hs7,hs5,hx,hBl,hBd2,honed];(repeat refine ca ?_);(refine hJ _ _ ?_;clear hJ J;simp only [ak,reduceIte]))
  have hs8:min (n+1 - k) 1=1:=by omega
  have hs9:k+1+(n - k+(cap - (n+1)))=cap:=by omega
  have hs10:min (k+1) cap=k+1:=by omega
  (repeat' (first | refine qS ?_ | (refine qR ?_;simp only [ak,reduceIte];simp [hx,honex,hBl,hc,hs8,hs9,hs10]) | (refine w_e [] ?_;intro J hJ;simp only [];simp [hx,honex,hBl,hc,hs8,hs9,hs10];(repeat refine ca ?_);(refine hJ _ _ ?_;clear hJ J;simp only [ak,reduceIte]))))
  refine ⟨l,_,_,_,if_pos rfl,n+1,.inl ⟨_,_,⟨rfl,rfl⟩,⟨⟨l,rfl,?_,by simp;omega,.inl rfl,fun y hy hyl=>by simp [hyl]⟩,by simp⟩⟩⟩
  rw [ins_room (a:=k) (b:=n) (S:=1) hk hc (hBk k hk) hx (by omega),set_H,if_pos rfl]
theorem DeleteU (l n k:Nat) (cs:List LV) (st:St) (hn:n≤100000) (hk:k < n) (hc:cs.length=n) (hone:cs.all oneL=true) (hl:st.H l=.box 29 1 cs):
 ACalls Tryz.prog 98 [.ms l 0 n,i k,i ((k+1:Nat):Int)] st fun r st'=>r=.ms l 0 (n - 1)∧st'=st.set l (.box 29 1 (cs.take k++cs.drop (k+1))):=by
 refine acalls_kap (acalls_shr ?_)
 refine qO tabOk Tryz.func98 rfl rfl Tryz.ntmps98 (rs:=[.tmp 6]) rfl (by simp) ?_
 refine awp_kap 0 rfl hl fun cap x hcap hcx=>?_
 have hBk:∀ j,j≤n→(cs++List.replicate x LV.dead).take j=cs.take j:=fun j hj=>by rw [List.take_append_of_le_length (by omega)]
 have hBd:((cs++List.replicate x LV.dead).drop (k+1)).take (n - (k+1))=cs.drop (k+1):=by rw [List.drop_append_of_le_length (by omega),List.take_append_of_le_length (by simp;omega),List.take_of_length_le (by simp;omega)]
 have hBl:(cs++List.replicate x LV.dead).length=cap:=by simp;omega
 generalize cs++List.replicate x .dead=B at *
 have honed:(cs.drop (k+1)).all oneL=true:=List.all_eq_true.2 fun y hy=>List.all_eq_true.1 hone y (List.mem_of_mem_drop hy)
 have h1:¬ (k:Int)=(k:Int)+1:=by omega
 have h2:((k:Int)+1).toNat=k+1:=by omega
 (repeat' (first | refine qS ?_ | (refine w_e [] ?_;intro J hJ;simp only [];simp [h1,h2];(repeat refine ca ?_);(refine hJ _ _ ?_;clear hJ J;simp only [ak,reduceIte]))))
 (refine qC ?_;simp [h1])
 (repeat' (first | refine qS ?_ | (refine qK ?_;simp only [ak,reduceIte]) | (refine w_e [] ?_;intro J hJ;simp only [];simp [h1,h2];(refine hJ _ _ ?_;clear hJ J;simp only [ak,reduceIte]))))
 have h3:min (n - (k+1)) (cap - (k+1))=n - (k+1):=by omega
 have h4:k+(n - (k+1))=n - 1:=by omega
 (refine w_s [26] [] [(0,true),(1,true),(2,true),(3,true),(4,true),(5,true),(6,false),(7,true)] ?_;intro J hJ;simp [h2,h3,h4,hBl,hBd,honed,hBk k (by omega)];(repeat refine ca ?_);(refine hJ _ _ ?_;clear hJ J;simp only [ak,reduceIte]))
 have h5:((n - 1:Nat):Int)≤n:=by omega
 have h6:n - (n - 1)=1:=by omega
 (repeat' (first | refine qS ?_ | (refine qR ?_;simp only [ak,reduceIte];simp [h5,h6]) | (refine w_e [] ?_;intro J hJ;simp only [];simp [h5,h6];(repeat refine ca ?_);(refine hJ _ _ ?_;clear hJ J;simp only [ak,reduceIte]))))
 refine ⟨l,_,_,_,if_pos rfl,n - 1,_,_,⟨rfl,rfl⟩,⟨rfl,rfl⟩,?_⟩
 have hlen:(cs.take k++cs.drop (k+1)).length=n - 1:=by simp;omega
 have e1:∀ Y,List.take (n - 1) (cs.take k++(cs.drop (k+1)++Y))=cs.take k++cs.drop (k+1):=fun Y=>by rw [← List.append_assoc,List.take_left' hlen]
 rw [e1,List.take_left' hlen]
 simp only [St.set_set]
theorem DeleteR (l n k:Nat) (cs:List LV) (st:St) (hn:n≤100000) (hk:k < n) (hc:cs.length=n) (hone:cs.all oneL=true) (hl:st.H l=.box 22 1 cs):
 ACalls Tryz.prog 99 [.ms l 0 n,i k,i ((k+1:Nat):Int)] st fun r st'=>r=.ms l 0 (n - 1)∧st'=st.set l (.box 22 1 (cs.take k++cs.drop (k+1))):=by
 refine acalls_kap (acalls_shr ?_)
 refine qO tabOk Tryz.func99 rfl rfl Tryz.ntmps99 (rs:=[.tmp 6]) rfl (by simp) ?_
 refine awp_kap 0 rfl hl fun cap x hcap hcx=>?_
 have hBk:∀ j,j≤n→(cs++List.replicate x LV.dead).take j=cs.take j:=fun j hj=>by rw [List.take_append_of_le_length (by omega)]
 have hBd:((cs++List.replicate x LV.dead).drop (k+1)).take (n - (k+1))=cs.drop (k+1):=by rw [List.drop_append_of_le_length (by omega),List.take_append_of_le_length (by simp;omega),List.take_of_length_le (by simp;omega)]
 have hBl:(cs++List.replicate x LV.dead).length=cap:=by simp;omega
 generalize cs++List.replicate x .dead=B at *
 have honed:(cs.drop (k+1)).all oneL=true:=List.all_eq_true.2 fun y hy=>List.all_eq_true.1 hone y (List.mem_of_mem_drop hy)
 have h1:¬ (k:Int)=(k:Int)+1:=by omega
 have h2:((k:Int)+1).toNat=k+1:=by omega
 (repeat' (first | refine qS ?_ | (refine w_e [] ?_;intro J hJ;simp only [];simp [h1,h2];(repeat refine ca ?_);(refine hJ _ _ ?_;clear hJ J;simp only [ak,reduceIte]))))
 (refine qC ?_;simp [h1])
 (repeat' (first | refine qS ?_ | (refine qK ?_;simp only [ak,reduceIte]) | (refine w_e [] ?_;intro J hJ;simp only [];simp [h1,h2];(refine hJ _ _ ?_;clear hJ J;simp only [ak,reduceIte]))))
 have h3:min (n - (k+1)) (cap - (k+1))=n - (k+1):=by omega
 have h4:k+(n - (k+1))=n - 1:=by omega
 (refine w_s [26] [] [(0,true),(1,true),(2,true),(3,true),(4,true),(5,true),(6,false),(7,true)] ?_;intro J hJ;simp [h2,h3,h4,hBl,hBd,honed,hBk k (by omega)];(repeat refine ca ?_);(refine hJ _ _ ?_;clear hJ J;simp only [ak,reduceIte]))
 have h5:((n - 1:Nat):Int)≤n:=by omega
 have h6:n - (n - 1)=1:=by omega
 (repeat' (first | refine qS ?_ | (refine qR ?_;simp only [ak,reduceIte];simp [h5,h6]) | (refine w_e [] ?_;intro J hJ;simp only [];simp [h5,h6];(repeat refine ca ?_);(refine hJ _ _ ?_;clear hJ J;simp only [ak,reduceIte]))))
 refine ⟨l,_,_,_,if_pos rfl,n - 1,_,_,⟨rfl,rfl⟩,⟨rfl,rfl⟩,?_⟩
 have hlen:(cs.take k++cs.drop (k+1)).length=n - 1:=by simp;omega
 have e1:∀ Y,List.take (n - 1) (cs.take k++(cs.drop (k+1)++Y))=cs.take k++cs.drop (k+1):=fun Y=>by rw [← List.append_assoc,List.take_left' hlen]
 rw [e1,List.take_left' hlen]
 simp only [St.set_set]
theorem getDE (l:List Ed) (j:Nat) (hj:j < l.length):l.getD j ed0=l[j]:=by
 rw [List.getD_eq_getElem?_getD,List.getElem?_eq_getElem hj];rfl
theorem eds_append (a b:List Ed):eds (a++b)=eds a++eds b:=by simp [eds]
def be (st:St) (q:Nat) (c:List Ed):St:=st.set q (.box 31 3 (eds c))
@[simp] theorem be_next (st:St) (q:Nat) (c:List Ed):(be st q c).next=st.next:=rfl
@[simp] theorem be_H (st:St) (q:Nat) (c:List Ed):(be st q c).H q=.box 31 3 (eds c):=by simp [be]
def cmpK (x y:Ed):Int:=if x.id < y.id then -1 else if y.id < x.id then 1 else 0
structure CmpAt (fid:FuncId) (caps:List LV) (q:Nat) (Pc:St→Prop):Prop where
 keep:∀ st st',Pc st→OffS q st st'→Pc st'
 call:∀ st x y,Pc st→ACalls Tryz.prog fid ([.ag (edL x),.ag (edL y)]++caps) st fun r st'=>r=i (cmpK x y)∧Keeps st st'
theorem half_s (n h:Nat) (hh:h=n / 2):gshr .u64 (n:Int) 1=(h:Int):=by
 show (n:Int).fdiv 2=(h:Int)
 rw [Int.fdiv_eq_ediv_of_nonneg _ (by omega)];omega
section
variable (q L:Nat) (fid:FuncId) (caps:List LV) (Pc:St→Prop) (hcmp:CmpAt fid caps q Pc) (hl:L≤100000)
include hcmp hl
end
end Go.Proofs.YtglkgindpjdoiaaGreat.Aw
namespace Go.Proofs.YtglkgindpjdoiaaGreat.Aw.U
open Go Go.RowKit Go.Proofs.YtglkgindpjdoiaaGreat.Pl
set_option linter.unusedSimpArgs false
set_option linter.unusedVariables false
def be (st:St) (q:Nat) (c:List Int):St:=st.set q (.box 29 1 (us c))
@[simp] theorem be_next (st:St) (q:Nat) (c:List Int):(be st q c).next=st.next:=rfl
@[simp] theorem be_H (st:St) (q:Nat) (c:List Int):(be st q c).H q=.box 29 1 (us c):=by simp [be]
def cmpK (x y:Int):Int:=if x < y then -1 else if y < x then 1 else 0
structure CmpAt (fid:FuncId) (caps:List LV) (q:Nat) (Pc:St→Prop):Prop where
 keep:∀ st st',Pc st→OffS q st st'→Pc st'
 call:∀ st x y,Pc st→ACalls Tryz.prog fid ([u x,u y]++caps) st fun r st'=>r=i (cmpK x y)∧Keeps st st'
section
variable (q L:Nat) (fid:FuncId) (caps:List LV) (Pc:St→Prop) (hcmp:CmpAt fid caps q Pc) (hl:L≤100000)
include hcmp hl
end
end Go.Proofs.YtglkgindpjdoiaaGreat.Aw.U
namespace Go.Proofs.YtglkgindpjdoiaaGreat.Aw
open Go Go.RowKit Go.Proofs.YtglkgindpjdoiaaGreat.Pl
set_option linter.unusedSimpArgs false
set_option linter.unusedVariables false
theorem rise_eq {α:Type} (f:α→Int):∀ {a b:List α},(a.map f).Pairwise (· < ·)→(b.map f).Pairwise (· < ·)→(∀ x,x∈a↔x∈b)→a=b
 | [],[],_,_,_=>rfl
 | [],y::b,_,_,h=>by have:=(h y).2 (by simp);simp at this
 | x::a,[],_,_,h=>by have:=(h x).1 (by simp);simp at this
 | x::a,y::b,ha,hb,h=>by
   simp only [List.map_cons,List.pairwise_cons,List.mem_map,forall_exists_index,and_imp,forall_apply_eq_imp_iff₂] at ha hb
   have hxy:x=y:=by
    rcases List.mem_cons.1 ((h x).1 (by simp)) with h1 | h1
    ·exact h1
    ·rcases List.mem_cons.1 ((h y).2 (by simp)) with h2 | h2
     ·exact h2.symm
     ·have:=ha.1 y h2;have:=hb.1 x h1;omega
   subst hxy
   congr 1
   refine rise_eq f ha.2 hb.2 fun z=>?_
   have hz:=h z
   rw [List.mem_cons,List.mem_cons] at hz
   constructor
   ·intro hza
    rcases hz.1 (.inr hza) with h1 | h1
    ·subst h1;have:=ha.1 z hza;omega
    ·exact h1
   ·intro hzb
    rcases hz.2 (.inr hzb) with h1 | h1
    ·subst h1;have:=hb.1 z hzb;omega
    ·exact h1
section
variable {α:Type} (f:α→Int)
def ins1 (v:α):List α→List α
 | []=>[v]
 | x::t=>if f v < f x then v::x::t else x::ins1 v t
def insU (v:α) (l:List α):List α:=if l.any fun x=>decide (f x=f v) then l else ins1 f v l
theorem ins1_mem (v:α) (l:List α) (x:α):x∈ins1 f v l↔x=v∨x∈l:=by
 induction l with
 | nil=>simp [ins1]
 | cons y t ih=>
   unfold ins1
   split
   ·simp
   ·rw [List.mem_cons,ih,List.mem_cons]
    constructor
    ·rintro (h | h | h)
     ·exact .inr (.inl h)
     ·exact .inl h
     ·exact .inr (.inr h)
    ·rintro (h | h | h)
     ·exact .inr (.inl h)
     ·exact .inl h
     ·exact .inr (.inr h)
theorem ins1_len (v:α) (l:List α):(ins1 f v l).length=l.length+1:=by
 induction l with
 | nil=>rfl
 | cons y t ih=>
   unfold ins1
   split
   ·simp
   ·simp [ih]
theorem ins1_rise (v:α):∀ (l:List α),(l.map f).Pairwise (· < ·)→(∀ x∈l,f x≠f v)→((ins1 f v l).map f).Pairwise (· < ·)
 | [],_,_=>by simp [ins1]
 | y::t,h,hn=>by
   simp only [List.map_cons,List.pairwise_cons,List.mem_map,forall_exists_index,and_imp,forall_apply_eq_imp_iff₂] at h
   unfold ins1
   by_cases hv:f v < f y
   ·rw [if_pos hv]
    simp only [List.map_cons,List.pairwise_cons,List.mem_cons,List.mem_map,forall_eq_or_imp,forall_exists_index,and_imp,forall_apply_eq_imp_iff₂]
    exact ⟨⟨hv,fun a ha=>by have:=h.1 a ha;omega⟩,h.1,h.2⟩
   ·rw [if_neg hv]
    simp only [List.map_cons,List.pairwise_cons,List.mem_map,forall_exists_index,and_imp,forall_apply_eq_imp_iff₂]
    refine ⟨fun a ha=>?_,ins1_rise v t h.2 fun x hx=>hn x (by simp [hx])⟩
    rcases (ins1_mem f v t a).1 ha with rfl | ha
    ·have:=hn y (by simp);omega
    ·exact h.1 a ha
theorem insU_rise (v:α) (l:List α) (h:(l.map f).Pairwise (· < ·)):((insU f v l).map f).Pairwise (· < ·):=by
 unfold insU
 split
 ·exact h
 ·rename_i hn
  refine ins1_rise f v l h fun x hx he=>hn ?_
  exact List.any_eq_true.2 ⟨x,hx,by simpa using he⟩
def insAll (l:List α):List α:=l.foldl (fun c v=>insU f v c) []
theorem insAll_take (l:List α) (k:Nat) (hk:k < l.length):insAll f (l.take (k+1))=insU f l[k] (insAll f (l.take k)):=by
 unfold insAll
 rw [List.take_succ_eq_append_getElem hk,List.foldl_append];rfl
theorem insAll_rise (l:List α):((insAll f l).map f).Pairwise (· < ·):=by
 unfold insAll
 have:∀ (l c:List α),(c.map f).Pairwise (· < ·)→((l.foldl (fun c v=>insU f v c) c).map f).Pairwise (· < ·):=by
  intro l
  induction l with
  | nil=>exact fun c h=>h
  | cons x l ih=>exact fun c h=>ih _ (insU_rise f x c h)
 exact this l [] .nil
theorem insAll_sub (l:List α) (x:α) (hx:x∈insAll f l):x∈l:=by
 unfold insAll at hx
 have:∀ (l c:List α),x∈l.foldl (fun c v=>insU f v c) c→x∈c∨x∈l:=by
  intro l
  induction l with
  | nil=>exact fun c h=>.inl h
  | cons y l ih=>
    intro c h
    rcases ih _ h with h1 | h1
    ·simp only [insU] at h1
     split at h1
     ·exact .inl h1
     ·rcases (ins1_mem f y c x).1 h1 with rfl | h2
      ·simp
      ·exact .inl h2
    ·simp [h1]
 rcases this l [] hx with h | h
 ·simp at h
 ·exact h
theorem insAll_mem (l:List α) (hn:(l.map f).Nodup) (x:α):x∈insAll f l↔x∈l:=by
 refine ⟨insAll_sub f l x,fun hx=>?_⟩
 unfold insAll
 have:∀ (l c:List α),(l.map f).Nodup→(∀ a∈l,∀ b∈c,f b≠f a)→(∀ x,x∈c∨x∈l→x∈l.foldl (fun c v=>insU f v c) c):=by
  intro l
  induction l with
  | nil=>intro c _ _ x hx;simpa using hx
  | cons y l ih=>
    intro c hnd hd x hx
    simp only [List.map_cons,List.nodup_cons] at hnd
    rw [List.foldl_cons]
    have hiu:insU f y c=ins1 f y c:=by
     unfold insU
     rw [if_neg]
     intro h
     obtain ⟨b,hb,he⟩:=List.any_eq_true.1 h
     exact hd y (by simp) b hb (by simpa using he)
    rw [hiu]
    refine ih _ hnd.2 (fun a ha b hb=>?_) x ?_
    ·rcases (ins1_mem f y c b).1 hb with rfl | hb
     ·intro he;exact hnd.1 (by rw [he];exact List.mem_map_of_mem ha)
     ·exact hd a (by simp [ha]) b hb
    ·rw [ins1_mem]
     rcases hx with h | h
     ·exact .inl (.inr h)
     ·rcases List.mem_cons.1 h with h | h
      ·exact .inl (.inl h)
      ·exact .inr h
 exact this l [] hn (by simp) x (.inr hx)
end
theorem CloneMU (a:List Int) (t:Nat) (st:St) (hl:a.length≤100000):
 ACalls Tryz.prog 37 [.sl t a.length (us a)] st fun r st'=>∃ l,r=.ms l 0 a.length∧st.next≤l∧l < st'.next∧st'.H l=.box 29 1 (us a)∧Keeps st st':=by
 refine acalls_nilM 29 1 ?_
 have hone:=us_one a
 refine qO tabOk Tryz.func37 rfl rfl Tryz.ntmps37 (rs:=[.tmp 2]) rfl (by simp) ?_
 (repeat' (first | refine qS ?_ | (refine qK ?_;simp only [ak,reduceIte]) | (refine qR ?_;simp only [ak,reduceIte];simp [hone]) | (refine qC ?_;simp [hone]) | (refine w_e [5] ?_;intro J hJ;simp only [];simp [hone];(repeat refine ca ?_);((try with_reducible refine ⟨?_,?_⟩)<;>(try with_reducible intro hnil)<;>refine hJ _ _ ?_<;>clear hJ J<;>simp only [ak,reduceIte]<;>try subst hnil))))
 ·exact (Keeps.new _ _).trans (Keeps.new _ _)
 ·exact Keeps.new _ _
theorem CloneME (l:List Ed) (t:Nat) (st:St) (hl:l.length≤100000):
 ACalls Tryz.prog 93 [.sl t l.length (eds l)] st fun r st'=>∃ q,r=.ms q 0 l.length∧st.next≤q∧q < st'.next∧st'.H q=.box 31 3 (eds l)∧Keeps st st':=by
 have hone:=eds_one l
 have hel:=eds_length l
 refine acalls_nilM 31 3 ?_
 refine qO tabOk Tryz.func93 rfl rfl Tryz.ntmps93 (rs:=[.tmp 2]) rfl (by simp) ?_
 (repeat' (first | refine qS ?_ | (refine qK ?_;simp only [ak,reduceIte]) | (refine qR ?_;simp only [ak,reduceIte];simp [hone,hel]) | (refine qC ?_;simp [hone,hel]) | (refine w_e [5] ?_;intro J hJ;simp only [];simp [hone,hel];(repeat refine ca ?_);((try with_reducible refine ⟨?_,?_⟩)<;>(try with_reducible intro hnil)<;>refine hJ _ _ ?_<;>clear hJ J<;>simp only [ak,reduceIte]<;>try subst hnil))))
 ·exact (Keeps.new _ _).trans (Keeps.new _ _)
 ·exact Keeps.new _ _
end Go.Proofs.YtglkgindpjdoiaaGreat.Aw
namespace Go.Proofs.YtglkgindpjdoiaaGreat.Aw
open Go.Proofs.YtglkgindpjdoiaaGreat.Pl
set_option linter.unusedSimpArgs false
set_option linter.unusedVariables false
end Go.Proofs.YtglkgindpjdoiaaGreat.Aw
namespace Go.Proofs.YtglkgindpjdoiaaGreat.Aw
open Go Go.RowKit Go.Proofs.YtglkgindpjdoiaaGreat.Pl
set_option linter.unusedSimpArgs false
set_option linter.unusedVariables false
end Go.Proofs.YtglkgindpjdoiaaGreat.Aw
namespace Go.Proofs.YtglkgindpjdoiaaGreat.Aw.I
open Go Go.RowKit Go.Proofs.YtglkgindpjdoiaaGreat.Pl
set_option linter.unusedSimpArgs false
set_option linter.unusedVariables false
end Go.Proofs.YtglkgindpjdoiaaGreat.Aw.I
namespace Go.Proofs.YtglkgindpjdoiaaGreat.Aw
open Go Go.RowKit Go.Proofs.YtglkgindpjdoiaaGreat.Pl
set_option linter.unusedSimpArgs false
set_option linter.unusedVariables false
def nmF:Nat→List Int→List (List Int×LV)
 | _,[]=>[]
 | k,x::V=>([x],u (k+1:Nat))::nmF (k+1) V
def nmL (V:List Int):List (List Int×LV):=nmF 0 V
theorem nmF_len (V:List Int):∀ k,(nmF k V).length=V.length:=by
 induction V with
 | nil=>intro k;rfl
 | cons x V ih=>intro k;simp only [nmF,List.length_cons,ih]
@[simp] theorem nmL_len (V:List Int):(nmL V).length=V.length:=nmF_len V 0
end Go.Proofs.YtglkgindpjdoiaaGreat.Aw
namespace Go.Proofs.YtglkgindpjdoiaaGreat.Aw
open Go Go.RowKit Go.Proofs.YtglkgindpjdoiaaGreat.Pl Go.Proofs.YtglkgindpjdoiaaGreat.Eu
set_option linter.unusedSimpArgs false
set_option linter.unusedVariables false
def BehI (m:Mp) (es:List (List Int×LV)) (S:List Int):Prop:=∀ d,mget es [d]=if d∈S then some (u (sg m d)) else none
theorem BehI.step {m:Mp} {es:List (List Int×LV)} {S:List Int} (h:BehI m es S) {d x:Int} (hx:x=sg m d):BehI m (mset es [d] (u x)) (S++[d]):=by
 intro e
 rw [mget_mset]
 by_cases he:e=d
 ·subst he;rw [if_pos rfl,if_pos (by simp),hx]
 ·rw [if_neg (by simpa using he),h e]
  simp [he]
theorem flat_snoc (rs:List (List Int)) (k:Nat) (hk:k < rs.length):(rs.take (k+1)).flatten=(rs.take k).flatten++rs.getD k []:=by
 rw [List.take_succ_eq_append_getElem hk,List.flatten_append,getR_lt _ _ hk];simp
def BehP (m:Mp) (st:St) (r:LV) (st':St):Prop:=∃ q es,r=.mp q∧st.next≤q∧q < st'.next∧st'.H q=.map false [.u32] es∧Keeps st st'∧BehI m es m.rots.flatten
theorem behind (m:Mp) (h:MapOk m) (st:St) (hv:m.g.vs.length≤1000) (he:m.g.es.length≤1000):
 ACalls Tryz.prog 31 [.ag (mpL m)] st (BehP m st):=by
 have hrl:=h.len
 refine qO tabOk Tryz.func31 rfl rfl Tryz.ntmps31 (rs:=[.tmp 2]) rfl (by simp) ?_
 (repeat' (first | refine qS ?_ | refine qB ?_ | (refine w_e [] ?_;intro J hJ;simp only [];simp [];(refine hJ _ _ ?_;clear hJ J;simp only [ak,reduceIte]))))
 refine awp_range 12 11 13 34 (m.rots.length) (fun j fr st2=>fr 3=.mp (st.next+1)∧fr 10=.sl 0 m.rots.length (rowsL m.rots)∧Keeps st st2∧st.next+1 < st2.next∧∃ es,st2.H (st.next+1)=.map false [.u32] es∧BehI m es (m.rots.take j).flatten) ?_ ?_ ?_
 ·exact ⟨by simp,by simp,(Keeps.new _ _).trans (Keeps.new _ _),by simp,[],by simp,fun d=>rfl⟩
 ·rintro j0 fr st2 hlt ⟨f3,f10,hkp,hlt2,es,hM,hB⟩ fi fn JJ hJJ
  have hd:=rowsL_drop m.rots j0 hlt
  have hRl:j0 < (rowsL m.rots).length:=by simpa using hlt
  have hfl:=flat_snoc m.rots j0 hlt
  have htin:m.rots.getD j0 []∈m.rots:=by rw [getR_lt _ _ hlt];exact List.getElem_mem _
  have htl:=h.row_le htin
  have htn:=h.nodup htin
  have hsg:=fun d hd=>@sg_at m h _ htin d hd
  generalize m.rots.getD j0 []=t at *
  (repeat' (first | refine qS ?_ | refine qB ?_ | (refine w_e [] ?_;intro J hJ;simp only [];simp [f10,fi,fn,hd,hRl];(repeat refine ca ?_);(refine hJ _ _ ?_;clear hJ J;simp only [ak,reduceIte]))))
  refine awp_range 18 17 19 33 (t.length) (fun j fr st2=>fr 3=.mp (st.next+1)∧fr 10=.sl 0 m.rots.length (rowsL m.rots)∧fr 5=.sl 0 t.length (us t)∧fr 16=.sl 0 t.length (us t)∧fr 12=i j0∧fr 11=i m.rots.length∧Keeps st st2∧st.next+1 < st2.next∧∃ es,st2.H (st.next+1)=.map false [.u32] es∧BehI m es ((m.rots.take j0).flatten++t.take j)) ?_ ?_ ?_
  ·exact ⟨by simp [f3],by simp [f10],by simp,by simp,by simp [fi],by simp [fn],hkp,hlt2,es,hM,by simpa using hB⟩
  ·clear f3 f10 fi fn hkp hlt2 hM hB es fr st2
   rintro k fr st2 hk ⟨f3,f10,f5,f16,f12,f11,hkp,hlt2,es,hM,hB⟩ fi fn J2 hJ2
   have hd1:=qG t k hk
   have hw:=qN k (by omega)
   have htm:((k:Int)+1).tmod (t.length:Int)=(((k+1) % t.length:Nat):Int):=tmod_nat (k+1) t.length _ rfl
   have hr:(k+1) % t.length < t.length:=Nat.mod_lt _ (by omega)
   have hd2:=qG t _ hr
   have hx:t.getD ((k+1) % t.length) 0=sg m (t.getD k 0):=by
    rw [getD_lt _ _ hr,getD_lt _ _ hk,hsg _ (List.getElem_mem _),nx_get htn hk]
   have htk:t.take (k+1)=t.take k++[t.getD k 0]:=by rw [getD_lt _ _ hk];exact List.take_succ_eq_append_getElem hk
   have hB2:=hB.step hx
   rw [List.append_assoc,← htk] at hB2
   have ht0:¬ t.length=0:=by omega
   generalize (k+1) % t.length=r at *
   generalize t.getD k 0=d at *
   generalize t.getD r 0=x at *
   (repeat' (first | refine qS ?_ | (refine w_e [] ?_;intro J hJ;simp only [];simp [f3,f5,f16,fi,fn,hd1,hw,htm,hd2,hM,hk,hr,ht0];(refine hJ _ _ ?_;clear hJ J;simp only [ak,reduceIte]))))
   exact hJ2 _ _ (by simp [fi]) (by simp [fn]) ⟨by simp [f3],by simp [f10],by simp [f5],by simp [f16],by simp [f12],by simp [f11],hkp.set (by omega) _,by simpa using hlt2,_,by simp,hB2⟩
  ·clear f3 f10 fi fn hkp hlt2 hM hB es fr st2
   rintro fr st2 ⟨f3,f10,f5,f16,f12,f11,hkp,hlt2,es,hM,hB⟩
   rw [List.take_length,← hfl] at hB
   skip
   exact hJJ _ _ (by simp [f12]) (by simp [f11]) ⟨by simp [f3],by simp [f10],hkp,hlt2,es,hM,hB⟩
 ·rintro fr st2 ⟨f3,f10,hkp,hlt2,es,hM,hB⟩
  (repeat' (first | refine qS ?_ | (refine qR ?_;simp only [ak,reduceIte];simp [f3]) | (refine w_e [] ?_;intro J hJ;simp only [];simp [f3];(refine hJ _ _ ?_;clear hJ J;simp only [ak,reduceIte]))))
  rw [List.take_length] at hB
  exact ⟨_,es,rfl,by omega,by omega,hM,hkp,hB⟩
theorem dart_range {m:Mp} (h:MapOk m) {d:Int} (hd:d∈darts m.g.es):2≤d∧d≤2097153:=by
 obtain ⟨x,hx,h1⟩:=mem_darts.1 hd
 have:=h.g.pos x hx
 omega
theorem MapOk.cyc_le {m:Mp} (h:MapOk m) {d:Int} (hd:d∈darts m.g.es) {L:List Int} (hc:IsCyc (fc m m.g.es) d L):(∀ x∈L,x∈darts m.g.es)∧L.length≤2 * m.g.es.length:=by
 have hdk:∀ k,it (fc m m.g.es) k d∈darts m.g.es:=by
  intro k
  induction k with
  | zero=>exact hd
  | succ k ih=>rw [it_succ];exact h.fc_dart _ _ ih
 have hs:∀ x∈L,x∈darts m.g.es:=fun x hx=>by
  obtain ⟨n,rfl⟩:=hc.mem.1 hx
  exact hdk n
 have:=List.Nodup.length_le_of_subset (hc.nodup (h.fc_inj _)) (l₂:=darts m.g.es) hs
 rw [darts_length] at this
 exact ⟨hs,this⟩
def WalkP (m:Mp) (d:Int) (S:Int→Prop) (ms:Nat) (st:St) (r:LV) (st':St):Prop:=
 (∃ t L,r=.sl t L.length (us L)∧IsCyc (fc m m.g.es) d L)∧OffS ms st st'∧∃ es,st'.H ms=.map false [.u32] es∧SeenI es (fun x=>S x∨Orb (fc m m.g.es) d x)
def itL (f:Int→Int) (d:Int) (k:Nat):List Int:=(List.range k).map fun j=>it f j d
theorem itL_succ (f:Int→Int) (d:Int) (k:Nat):itL f d (k+1)=itL f d k++[it f k d]:=by unfold itL;rw [List.range_succ];simp
@[simp] theorem itL_len (f:Int→Int) (d:Int) (k:Nat):(itL f d k).length=k:=by simp [itL]
theorem Walk (m:Mp) (h:MapOk m) (d:Int) (q5 q4 ms ma:Nat) (es5 es4:List (List Int×LV)) (S:Int→Prop) (st:St) (he:m.g.es.length≤1000) (hd:d∈darts m.g.es)
 (h5:st.H q5=.box 65 1 [.mp ms]) (h4:st.H q4=.box 63 1 [.mp ma]) (hms:st.H ms=.map false [.u32] es5) (hma:st.H ma=.map false [.u32] es4) (hlt:(q5 < st.next∧q4 < st.next)∧ms < st.next∧ma < st.next) (hmm:ms≠ma)
 (hSI:SeenI es5 S) (hB:BehI m es4 m.rots.flatten) (hS:∀ x,Orb (fc m m.g.es) d x→¬ S x):
 ACalls Tryz.prog 32 [u d,.pt q5 0,.pt q4 0] st (WalkP m d S ms st):=by
 obtain ⟨⟨l5,l4⟩,ls,la⟩:=hlt
 have n1:¬ q5=ms:=by rintro rfl;rw [h5] at hms;cases hms
 have n2:¬ q4=ms:=by rintro rfl;rw [h4] at hms;cases hms
 have hmm':¬ ma=ms:=fun e=>hmm e.symm
 have hP:=h.fc_per m.g.es (fun x hx=>hx)
 obtain ⟨L,p,hp,hL,hp1,hp2⟩:=isCyc_ex hP d
 have hcyc:IsCyc (fc m m.g.es) d L:=⟨p,hp,hL,hp1,hp2⟩
 have hL':L=itL (fc m m.g.es) d p:=hL
 have hdk:∀ k,it (fc m m.g.es) k d∈darts m.g.es:=by
  intro k
  induction k with
  | zero=>exact hd
  | succ k ih=>rw [it_succ];exact h.fc_dart _ _ ih
 have hpl:p≤2 * m.g.es.length:=by
  have:=(h.cyc_le hd hcyc).2
  rwa [hL',itL_len] at this
 refine qO tabOk Tryz.func32 rfl rfl Tryz.ntmps32 (rs:=[.tmp 4]) rfl (by simp) ?_
 (repeat' (first | refine qS ?_ | refine qB ?_ | (refine w_e [] ?_;intro J hJ;simp only [];simp [];(refine hJ _ _ ?_;clear hJ J;simp only [ak,reduceIte]))))
 refine awp_posG fun hpos=>?_
 refine awp_own 5 29 1 (by simp) ?_
 generalize hf:fc m m.g.es=f at *
 refine qL (fun n fr st2=>∃ k:Nat,k≤p∧n=p - k∧fr 0=u (it f k d)∧fr 1=.pt q5 0∧fr 2=.pt q4 0∧∃ t es,fr 5=.sl t k (us (itL f d k))∧(t≠0∧st.next≤t∧t < st2.next)∧st2.H t=.own 29 1 k∧OffS ms st st2∧st2.H ms=.map false [.u32] es∧SeenI es (fun x=>S x∨∃ i,i < k∧x=it f i d)) p ?_ ?_
 ·exact ⟨0,by omega,by omega,by simp [it],by simp,by simp,st.next,es5,by simp [itL],⟨by omega,by omega,by simp⟩,by simp,(OffS.refl ms st).keeps (Keeps.new _ _),by simp [show ¬ ms=st.next by omega,hms],hSI.congr fun v=>⟨fun h=>h.elim id fun ⟨_,h,_⟩=>by omega,.inl⟩⟩
 rintro n fr st2 ⟨k,hk,rfl,f0,f1,f2,t,es,f5,⟨ht0,htl,htn⟩,htH,hoff,hM,hSk⟩ JJ hJJ
 have hn2:=hoff.1
 have h5':=(hoff.2 q5 n1 l5).trans h5
 have h4':=(hoff.2 q4 n2 l4).trans h4
 have ha':=(hoff.2 ma hmm' la).trans hma
 by_cases hkp:k < p
 rotate_left
 ·clear hJJ
  obtain rfl:k=p:=by omega
  have hs1:=(hSk (it f k d)).1 (.inr ⟨0,hp,by rw [hp1];rfl⟩)
  (repeat' (first | refine qS ?_ | (refine qX ?_;simp only [ak,reduceIte]) | (refine qR ?_;simp only [ak,reduceIte];simp [f0,f1,h5',hM,hs1,f5]) | (refine qC ?_;simp [f0,f1,h5',hM,hs1,f5]) | (refine w_e [] ?_;intro J hJ;simp only [];simp [f0,f1,h5',hM,hs1,f5];(refine hJ _ _ ?_;clear hJ J;simp only [ak,reduceIte]))))
  refine ⟨⟨t,L,by rw [hL'];simp,?_⟩,hoff,es,hM,hSk.congr fun v=>?_⟩
  ·rw [hf];exact hcyc
  ·rw [hf]
   refine or_congr Iff.rfl ?_
   rw [← hcyc.mem,hL]
   simp only [List.mem_map,List.mem_range]
   exact ⟨fun ⟨a,b,c⟩=>⟨a,b,c.symm⟩,fun ⟨a,b,c⟩=>⟨a,b,c.symm⟩⟩
 have hs0:¬ (S (it f k d)∨∃ i,i < k∧it f k d=it f i d):=by
  rintro (h1 | ⟨j,h1,h2⟩)
  ·exact hS _ ⟨k,rfl⟩ h1
  ·have e:k=j+(k - j):=by omega
   rw [e,it_add] at h2
   exact hp2 (k - j) (by omega) (by omega) (it_inj (fun x y=>by rw [← hf];exact h.fc_inj _ x y) j h2)
 have hs1:=(hSk (it f k d)).2 hs0
 have hSn:=hSk.step (P':=fun x=>S x∨∃ i,i < k+1∧x=it f i d) (it f k d) fun v=>by
  constructor
  ·rintro (h1 | ⟨j,h1,h2⟩)
   ·exact .inl (.inl h1)
   ·rcases Nat.lt_or_ge j k with h3 | h3
    ·exact .inl (.inr ⟨j,h3,h2⟩)
    ·obtain rfl:j=k:=by omega
     exact .inr h2
  ·rintro ((h1 | ⟨j,h1,h2⟩) | h1)
   ·exact .inl h1
   ·exact .inr ⟨j,by omega,h2⟩
   ·exact .inr ⟨k,by omega,h1⟩
 have hxd:=hdk k
 have hx1:=dart_range h hxd
 have hxl:(mget es4 [tw (it f k d)]).getD (u 0)=u (it f (k+1) d):=by
  rw [hB,if_pos (by rw [← (h.flat_perm).mem_iff];exact tw_dart.2 hxd),it_succ,← hf]
  simp only [Option.getD_some,fc]
  rw [al_in (by rw [hf];exact hxd),hf]
 have hLn:=itL_succ f d k
 have hLl:=itL_len f d k
 generalize itL f d k=Lk at *
 generalize hxe:it f k d=x at *
 generalize hye:it f (k+1) d=y at *
 have t1:¬ t=ms:=by rintro rfl;rw [hM] at htH;cases htH
 have t2:¬ t=st2.next:=by omega
 have t3:¬ ms=st2.next:=by omega
 have t4:¬ ms=st2.next+1:=by omega
 have t5:¬ q4=st2.next:=by omega
 have t6:¬ q4=st2.next+1:=by omega
 have t7:¬ ma=st2.next:=by omega
 have t8:¬ ma=st2.next+1:=by omega
 have t9:¬ q4=t:=by rintro rfl;rw [h4'] at htH;cases htH
 have t10:¬ ma=t:=by rintro rfl;rw [ha'] at htH;cases htH
 have t11:¬ ms=t:=fun e=>t1 e.symm
 (repeat' (first | refine qS ?_ | refine qB ?_ | (refine qK ?_;simp only [ak,reduceIte]) | (refine qC ?_;simp [f0,f1,f2,f5,h5',hM,hs1,n1,n2,htH,ht0,t1,t2,t3,t4,hLl]) | (refine w_e [] ?_;intro J hJ;simp only [];simp [f0,f1,f2,f5,h5',hM,hs1,n1,n2,htH,ht0,t1,t2,t3,t4,hLl];(repeat refine ca ?_);(refine hJ _ _ ?_;clear hJ J;simp only [ak,reduceIte]))))
 (refine w_s [] [q4,ma] [(0,true),(1,true),(2,true),(3,true),(4,true)] ?_;intro J hJ;simp [f2,f0,h4',ha',t5,t6,t7,t8,t9,t10,n2,hmm'])
 refine qD (Twin x _ (by omega) (by omega)) (by simp) ?_;rintro r s3 ⟨rfl,rfl⟩
 refine ⟨fun _=>by simp [h4',ha',t5,t6,t7,t8,t9,t10,n2,hmm'],?_⟩
 (refine d_go ?_;simp [f2,f0,h4',ha',t5,t6,t7,t8,t9,t10,n2,hmm',hxl];(refine hJ _ _ ?_;clear hJ J;simp only [ak,reduceIte]))
 skip
 refine hJJ (p - (k+1)) _ _ (by omega) ⟨k+1,by omega,rfl,by simp [hye],by simp [f1],by simp [f2],st2.next+1,_,by simp [hLn],⟨by omega,by omega,by simp⟩,by simp,?_,by simp [t11,t3,t4],hSn⟩
 exact (((hoff.set _).keeps (Keeps.new _ _)).set' htl _).keeps (Keeps.new _ _)
theorem it_in {f:Int→Int} {ds:List Int} (hd:∀ x∈ds,f x∈ds) (n:Nat):∀ x,x∈ds→it f n x∈ds:=by
 induction n with
 | zero=>intro x hx;exact hx
 | succ n ih=>intro x hx;exact ih _ (hd x hx)
theorem Lead.flat {f:Int→Int} (hf:Per f) {ds:List Int} {k:Nat} {R:List (List Int)} (h:Lead f ds k R):R.flatten.Nodup∧∀ x,x∈R.flatten↔SeenD f ds k x:=by
 induction h with
 | zero=>exact ⟨by simp,fun w=>⟨fun h=>by simp at h,fun h=>by obtain ⟨u,hu,_⟩:=h;simp at hu⟩⟩
 | seen _ hk hs ih=>exact ⟨ih.1,fun w=>by rw [ih.2,seenD_same hk hs]⟩
 | @lead k R c _ hk hs hc ih=>
   rw [List.flatten_append,List.flatten_cons,List.flatten_nil,List.append_nil]
   refine ⟨?_,fun w=>?_⟩
   ·rw [List.nodup_append]
    refine ⟨ih.1,hc.nodup fun x y=>hf.inj,fun a ha b hb=>?_⟩
    rintro rfl
    obtain ⟨y,hy,h1⟩:=(ih.2 a).1 ha
    exact hs ⟨y,hy,h1.trans (Orb.symm hf (hc.mem.1 hb))⟩
   ·rw [List.mem_append,ih.2,hc.mem,seenD_succ hk]
section
variable {f:Int→Int} (hf:Per f) {ds:List Int} (hd:∀ x∈ds,f x∈ds)
include hf hd
theorem Lead.count {R:List (List Int)} (hn:ds.Nodup) (h:Lead f ds ds.length R):R.flatten.Perm ds:=by
 obtain ⟨h1,h2⟩:=Lead.flat hf h
 refine (List.perm_ext_iff_of_nodup h1 hn).2 fun w=>?_
 rw [h2]
 unfold SeenD
 rw [List.take_length]
 constructor
 ·rintro ⟨y,hy,n,rfl⟩;exact it_in hd n y hy
 ·intro hw;exact ⟨w,hw,Orb.refl _ _⟩
theorem Lead.cyc (hr:ds.Pairwise (· < ·)) {k:Nat} {R:List (List Int)} (h:Lead f ds k R):∀ c∈R,∃ e∈ds,IsCyc f e c∧mn c=e:=by
 induction h with
 | zero=>intro c hc;simp at hc
 | seen _ _ _ ih=>exact ih
 | @lead k R c _ hk hs hc ih=>
   intro c' hc'
   rw [List.mem_append,List.mem_singleton] at hc'
   rcases hc' with h1 | rfl
   ·exact ih c' h1
   ·exact ⟨_,by rw [getD_lt _ _ hk];exact List.getElem_mem _,hc,(cyc_lead hf hr hd hk hc).1 hs⟩
end
def tix (rs:List (List Int)) (d:Int):Int:=if (rs.any fun t=>decide (d∈t))=true then (rs.findIdx fun t=>decide (d∈t):Int) else -1
theorem tix_some {rs:List (List Int)} {d:Int} {k:Nat} (hk:k < rs.length) (h:d∈rs.getD k []) (hn:∀ j,j < k→d∉rs.getD j []):tix rs d=k:=by
 rw [getR_lt _ _ hk] at h
 unfold tix
 rw [if_pos (List.any_eq_true.2 ⟨_,List.getElem_mem hk,by simpa using h⟩)]
 congr 1
 refine (List.findIdx_eq hk).2 ⟨by simpa using h,fun j hj=>?_⟩
 have:=hn j hj
 rw [getR_lt _ _ (by omega)] at this
 simpa using this
theorem tix_none {rs:List (List Int)} {d:Int} (hn:∀ j,j < rs.length→d∉rs.getD j []):tix rs d = -1:=by
 unfold tix
 rw [if_neg]
 intro h
 obtain ⟨t,ht,hp⟩:=List.any_eq_true.1 h
 obtain ⟨j,hj,rfl⟩:=List.getElem_of_mem ht
 have:=hn j hj
 rw [getR_lt _ _ hj] at this
 exact this (by simpa using hp)
theorem tix_in {rs:List (List Int)} {d:Int} (h:∃ t∈rs,d∈t):∃ k,k < rs.length∧tix rs d=(k:Int)∧d∈rs.getD k []:=by
 obtain ⟨t,ht,hd⟩:=h
 obtain ⟨j,hj,rfl⟩:=List.getElem_of_mem ht
 obtain ⟨k,hk,hmin⟩:=least (P:=fun k=>k < rs.length∧d∈rs.getD k []) ⟨hj,by rw [getR_lt _ _ hj];exact hd⟩
 exact ⟨k,hk.1,tix_some hk.1 hk.2 fun i hi hd=>hmin i hi ⟨by omega,hd⟩,hk.2⟩
theorem tix_out {rs:List (List Int)} {d:Int} (h:∀ t∈rs,d∉t):tix rs d = -1:=tix_none fun j hj=>by rw [getR_lt _ _ hj];exact h _ (List.getElem_mem _)
theorem ref_Turn (m:Mp) (d:Int) (st:St) (hr:m.rots.length≤1000) (hs:∀ t∈m.rots,small t):
 ACalls Tryz.prog 119 [.ag (mpL m),u d] st fun r st'=>r=i (tix m.rots d)∧Keeps st st':=by
 refine qO tabOk Tryz.func119 rfl rfl Tryz.ntmps119 (rs:=[.tmp 4]) rfl (by simp) ?_
 (repeat' (first | refine qS ?_ | refine qB ?_ | (refine w_e [] ?_;intro J hJ;simp only [];simp [];(refine hJ _ _ ?_;clear hJ J;simp only [ak,reduceIte]))))
 refine awp_range 9 8 10 21 (m.rots.length) (fun j fr st2=>fr 1=u d∧fr 2=.pt st.next 0∧st2.H st.next=.box 28 3 (mpL m)∧Keeps st st2∧∀ k,k < j→d∉m.rots.getD k []) ?_ ?_ ?_
 ·exact ⟨by simp,by simp,by simp,Keeps.new _ _,fun k hk=>by omega⟩
 ·rintro j fr st2 hlt ⟨f1,f2,hG,hkp,hno⟩ fi fn JJ hJJ
  have hd:=rowsL_drop m.rots j hlt
  have hRl:j < (rowsL m.rots).length:=by simpa using hlt
  have htin:m.rots.getD j []∈m.rots:=by rw [getR_lt _ _ hlt];exact List.getElem_mem _
  have hsm:=hs _ htin
  have hso:=fun h=>tix_some (d:=d) hlt h hno
  have hnn:d∉m.rots.getD j []→∀ k,k < j+1→d∉m.rots.getD k []:=fun h k hk=>by
   rcases Nat.lt_or_ge k j with h1 | h1
   ·exact hno k h1
   ·obtain rfl:k=j:=by omega
    exact h
  generalize m.rots.getD j []=t at *
  (repeat' (first | refine qS ?_ | (refine w_e [] ?_;intro J hJ;simp only [];simp [f1,f2,hG,fi,fn,hd,hRl,hlt];(try (refine hJ _ _ ?_;clear hJ J;simp only [ak,reduceIte])))))
  refine qE (Find t 0 d _ hsm) (by simp) ?_;rintro r s3 ⟨rfl,rfl⟩
  by_cases hdt:d∈t
  ·have hr:=hso hdt
   have hg:=gi_mem hdt
   (repeat' (first | refine qS ?_ | (refine qR ?_;simp only [ak,reduceIte];simp [hg,hr]) | (refine qC ?_;simp [hg,hr]) | ((first | (refine w_e [] ?_;intro J hJ;simp only []) | (refine e_go ?_));simp [hg,hr];(refine hJ _ _ ?_;clear hJ J;simp only [ak,reduceIte]))))
   exact hkp
  ·have hg:=gi_not hdt
   (repeat' (first | (refine qK ?_;simp only [ak,reduceIte]) | (refine qC ?_;simp [hg]) | (refine e_go ?_;simp [hg];(refine hJ _ _ ?_;clear hJ J;simp only [ak,reduceIte]))))
   exact hJJ _ _ (by simp [fi]) (by simp [fn]) ⟨by simp [f1],by simp [f2],hG,hkp,hnn hdt⟩
 ·rintro fr st2 ⟨f1,f2,hG,hkp,hno⟩
  have hr:=tix_none hno
  (repeat' (first | refine qS ?_ | (refine qR ?_;simp only [ak,reduceIte];simp [hr]) | (refine w_e [] ?_;intro J hJ;simp only [];simp [hr];(refine hJ _ _ ?_;clear hJ J;simp only [ak,reduceIte]))))
  exact hkp
theorem ref_twin (d:Int) (st:St) (h0:0≤d) (h1:d < 4294967295):ACalls Tryz.prog 120 [u d] st fun r st'=>r=u (tw d)∧st'=st:=by
 have hm:d.tmod 2=d % 2:=Int.tmod_eq_emod_of_nonneg h0
 by_cases hp:d % 2=0
 ·have ht:tw d=d+1:=by unfold tw;rw [if_pos hp]
  have hw:IntKind.u32.wrap (d+1)=d+1:=wrap_u32' _ (by omega) (by omega)
  refine qO tabOk Tryz.func120 rfl rfl Tryz.ntmps120 (rs:=[.tmp 2]) rfl (by simp) ?_
  (repeat' (first | refine qS ?_ | (refine qR ?_;simp only [ak,reduceIte];simp [hm,hp,ht,hw]) | (refine qC ?_;simp [hm,hp,ht,hw]) | (refine w_e [] ?_;intro J hJ;simp only [];simp [hm,hp,ht,hw];(refine hJ _ _ ?_;clear hJ J;simp only [ak,reduceIte]))))
 ·have ht:tw d=d - 1:=by unfold tw;rw [if_neg hp]
  have hw:IntKind.u32.wrap (d - 1)=d - 1:=wrap_u32' _ (by omega) (by omega)
  refine qO tabOk Tryz.func120 rfl rfl Tryz.ntmps120 (rs:=[.tmp 2]) rfl (by simp) ?_
  (repeat' (first | refine qS ?_ | (refine qK ?_;simp only [ak,reduceIte]) | (refine qR ?_;simp only [ak,reduceIte];simp [hm,hp,ht,hw]) | (refine qC ?_;simp [hm,hp,ht,hw]) | (refine w_e [] ?_;intro J hJ;simp only [];simp [hm,hp,ht,hw];(refine hJ _ _ ?_;clear hJ J;simp only [ak,reduceIte]))))
end Go.Proofs.YtglkgindpjdoiaaGreat.Aw
