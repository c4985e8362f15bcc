/- Logical values, what represents them in memory, and that this lasts while memory only grows. No program is named here. -/
import Derived.Below
import Derived.Laws.AppendOwn
import Derived.Maps.AppendAt
import Derived.OwnWalk
import Derived.Deep.Draws
import Derived.Laws.Rows
import Derived.Lib.TrailingZeros
set_option linter.unusedVariables false
set_option linter.unusedSimpArgs false
set_option linter.defProp false
namespace Go.Proofs.YtbgngpdonpeboaaGreatDoor
abbrev AN:=List Int
def oO {p:Prop}(h:p:=by omega):p:=h
def sS {p:Prop}(h:p:=by simp):p:=h
def zZ {a b:Prop}(k:b)(h:b→a:=by simp only[Go.Proofs.YtbgngpdonpeboaaGreatDoor.Aw.ak,reduceIte];exact fun h=>h):a:=h k
def zW {a b:Int}(h:a=b:=by omega)(h0:-9223372036854775808≤a:=by omega)(h1:a≤9223372036854775807:=by omega):Go.IntKind.i64.wrap a=b:=by
 subst h
 simp only[Go.IntKind.wrap,Go.IntKind.signed,Go.IntKind.bits]
 simp
 split <;> omega
def ac:=@if_neg
def ar:=@List.mem_cons_of_mem
def ap:=@Option.some.injEq
def ah:=@List.mem_cons
def an:=@List.mem_append
def aw:=@List.mem_cons_self
def aq:=@List.mem_map
def bf:=@List.mem_singleton
def cp:=@List.getD_eq_getElem?_getD
def cg:=@List.getElem?_eq_getElem
def ad:=@if_pos
def ax:=@List.map_cons
def au:=@Nat.le_refl
def bw:=@List.nodup_append
def cf:=@List.length_append
def cb:=@List.nodup_cons
def eL:=@List.take_succ_eq_append_getElem
def cX:=@List.mem_append_left
def cz:=@Nat.lt_of_lt_of_le
def dp:=@List.take_of_length_le
def de:=@List.mem_map_of_mem
def cr:=@List.map_append
def cx:=@List.mem_filter
def fg:=@List.Nodup.length_le_of_subset
def dv:=@List.mem_append_right
def dn:=@List.length_take
def fq:=@List.pairwise_iff_getElem
def dh:=@List.length_map
def dq:=@List.getElem_mem
def fu:=@Array.getElem?_eq_some_iff
def eh:=@List.getElem_of_mem
def fv:=@Classical.byContradiction
def dz:=@List.append_assoc
def gd:=@List.take_append_drop
def ec:=@List.flatMap_cons
def gI:=@List.eq_nil_of_length_eq_zero
def ej:=@Nat.mod_eq_of_lt
def ir:=@List.drop_eq_getElem_cons
def gS:=@List.exists_mem_of_ne_nil
def fa:=@List.pairwise_map
def ii:=@List.map_congr_left
def fh:=@List.mem_flatten
def dy:=@List.map_map
def dC:=@Nat.lt_or_ge
def eP:=@List.append_nil
def gw:=@List.length_filter_le
def gg:=@decide_eq_true_iff
def fw:=@Bool.and_eq_true
def gh:=@List.mem_flatMap
def jn:=@List.perm_ext_iff_of_nodup
def er:=@Nat.le_trans
def gk:=@List.length_drop
def gm:=@List.take_length
def fC:=@List.mem_range
def fx:=@Prod.mk.injEq
def jv:=@List.getElem?_append_left
def jy:=@List.idxOf_lt_length_of_mem
def ij:=@List.append_of_mem
def jz:=@Array.getD_eq_getD_getElem?
def iu:=@List.length_pos_iff
def jp:=@Option.map_eq_some_iff
def jq:=@List.pairwise_cons
def ik:=@List.size_toArray
def iv:=@Bool.false_eq_true
def jc:=@List.filter_sublist
def kc:=@List.perm_append_comm
def lh:=@List.sublist_flatten_of_mem
def im:=@Option.some.inj
def dE:=@if_true
def jl:=@List.mem_reverse
def mv:=@Array.getElem?_setIfInBounds
def jw:=@List.reverse_perm
def kv:=@List.ne_nil_of_mem
def mw:=@List.getElem?_append_right
def my:=@List.exists_cons_of_ne_nil
def mf:=@Option.bind_eq_some_iff
def ke:=@decide_eq_true_eq
def mz:=@List.getElem_append_right
def li:=@Array.replicate_succ
def mA:=@Array.getElem?_eq_getElem
def qd:=@List.set_eq_take_append_cons_drop
def jx:=@List.cons.injEq
def jd:=@Nat.zero_add
def lj:=@List.append_toArray
def ov:=@List.eq_nil_iff_forall_not_mem
def je:=@Nat.zero_le
def lk:=@List.perm_middle
def kw:=@List.all_eq_true
def mg:=@List.flatten_append
def lp:=@List.push_toArray
def lq:=@List.foldl_append
def fD:=@Ne.symm
def kf:=@Prod.swap_swap
def mh:=@List.getElem_idxOf
def mi:=@List.getElem?_take
def mB:=@Nat.eq_of_testBit_eq
def gx:=@if_false
def nc:=@List.pairwise_append
def nv:=@List.pairwise_lt_range
def mj:=@List.getElem_take
def nh:=@List.flatMap_append
def ow:=@List.mem_of_find?_eq_some
def ls:=@decide_eq_false
def nw:=@List.getElem?_eq_none
def ny:=@Array.getElem?_toList
def od:=@List.getElem?_toArray
def lu:=@Nat.mul_comm
def ml:=@List.not_mem_nil
def io:=@Prod.ext
def kg:=@Nat.ne_of_lt
def qe:=@List.dropLast_concat_getLast
def ox:=@decide_eq_false_iff_not
def oy:=@List.length_eq_zero_iff
def ni:=@Nat.lt_trichotomy
def nj:=@of_decide_eq_true
def nk:=@List.getElem?_map
def qf:=@List.Perm.append_left
def oz:=@List.mem_of_mem_take
def gy:=@not_or
def oe:=@List.getElem_drop
def og:=@List.ext_getElem?
def qg:=@List.getLast_eq_getElem
def oh:=@List.getElem_map
def nm:=@decide_eq_true
def kz:=@Nat.mod_lt
def lx:=@Nat.add_mul
def mm:=@getElem!_pos
def rC:=@Int.tmod_eq_emod_of_nonneg
def rD:=@List.nodup_iff_pairwise_ne
def qh:=@List.reverse_reverse
def qi:=@List.Pairwise.filter
def oX:=@List.drop_drop
def sa:=@List.getElem_append_left
def np:=@List.map_nil
def oY:=@List.any_eq_true
def sc:=@List.filter_eq_self
def qj:=@List.map_eq_nil_iff
def se:=@Nat.testBit_mul_two_pow
def qk:=@List.map_drop
def ql:=@Nat.eq_zero_or_pos
def qm:=@Nat.add_sub_cancel
def qn:=@List.filter_append
def o0:=@List.find?_some
def qo:=@List.find?_eq_none
def pd:=@List.length_set
def qp:=@of_decide_eq_false
def sf:=@List.find?_cons_of_neg
def sh:=@List.drop_of_length_le
def qq:=@List.reverse_cons
def qt:=@List.length_range
def si:=@List.eq_nil_or_concat
def sj:=@List.concat_eq_append
def pf:=@List.drop_left
def sk:=@List.Pairwise.sublist
def qv:=@Nat.lt_succ_self
def qw:=@List.take_append
def sm:=@List.mem_iff_getElem
def qx:=@List.flatMap_nil
def qy:=@List.nodup_range
def sn:=@Nat.mul_le_mul_right
def qz:=@List.map_flatten
def oi:=@Int.le_refl
def sr:=@beq_eq_false_iff_ne
def ui:=@List.append_eq_append_iff
def su:=@BitVec.toNat_ofNat
def sx:=@List.getElem?_drop
def zk:=@List.toArray_range
def rf:=@List.take_left
def rh:=@List.take_take
def uj:=@Int.eq_ofNat_of_zero_le
def uk:=@List.pairwise_singleton
def sy:=@List.getElem?_set
def sT:=@List.Pairwise.and
def ta:=@Bool.not_eq_true'
def tc:=@Nat.add_mod_right
def ph:=@Nat.mul_one
def ul:=@List.filter_eq_nil_iff
def xn:=@List.Perm.append_right
def um:=@List.length_eq_one_iff
def uo:=@Array.getElem?_eq_none
def nq:=@or_false
def uq:=@Nat.div_eq_of_lt
def tf:=@List.getElem_zip
def tg:=@List.filter_cons
def ur:=@List.map_snd_zip
def mo:=@Iff.rfl
def ri:=@Nat.mod_self
def ti:=@Nat.min_eq_left
def ut:=@List.mem_of_mem_drop
def tj:=@Nat.not_lt_zero
def xo:=@List.drop_append_of_le_length
def uu:=@List.drop_succ_cons
def rj:=@Nat.le_succ
def xp:=@Array.extract_eq_self_of_le
def xq:=@Array.getElem?_append_left
def xr:=@Array.toList_setIfInBounds
def uv:=@not_true_eq_false
def rl:=@beq_iff_eq
def xt:=@Array.mapM_eq_mapM_toList
def xu:=@List.getElem?_eq_some_iff
def uz:=@Nat.succ_mul
def vc:=@List.ext_getElem
def vd:=@Nat.testBit_succ
def ve:=@Nat.le_add_right
def xv:=@Nat.add_right_cancel_iff
def vf:=@List.map_flatMap
def xw:=@List.map_fst_zip
def tn:=@Nat.le_of_eq
def xy:=@Option.isSome_iff_exists
def vg:=@List.map_toArray
def vh:=@List.range_succ
def vj:=@List.length_zip
def vk:=@Bool.eq_iff_iff
def zm:=@Nat.mul_eq_zero
def xz:=@List.not_of_lt_findIdx
def yc:=@List.length_pos_of_mem
def yd:=@List.map_eq_append_iff
def ye:=@List.append_eq_nil_iff
def yf:=@List.pairwise_flatten
def yg:=@Nat.le_div_iff_mul_le
def pj:=@dif_pos
def yh:=@Array.getElem?_modify
def vm:=@List.Perm.refl
def yj:=@Array.mem_of_getElem?
def yk:=@Classical.choose_spec
def yl:=@List.idxOf_le_length
def ym:=@List.perm_cons_erase
def yn:=@Nat.pow_le_pow_right
def yo:=@List.findIdx_getElem
def rm:=@and_true
def yp:=@List.map_eq_cons_iff
def yq:=@Nat.div_lt_of_lt_mul
def yr:=@Array.mem_toList_iff
def zn:=@List.drop_set_of_lt
def yt:=@List.perm_iff_count
def yu:=@List.reverse_append
def yv:=@List.length_reverse
def yw:=@List.getElem?_range
def vn:=@Nat.zero_mul
def vo:=@Nat.mul_pos
def vp:=@List.map_id
namespace Aw
open Go Go.RowKit
inductive LV where
 |dead
 |nil
 |atom (v:Value)
 |sl (t n:Nat) (cs:List LV)
 |ms (l o n:Nat)
 |ag (cs:List LV)
 |pt (l o:Nat)
 |ep (cs:List LV)
 |mp (l:Nat)
 |fn (f:Fn) (IQ:List LV)
 |tu (vs:List LV)
 |qu (t o n:Nat) (cs:List LV)
 |emp
 |pe (l:Nat) (cs:List LV)
 |kap (l n c:Nat)
def qM:Nat:=18446744073709551616
structure G where
 z:Nat
 φ:Nat->Option Nat
 β:Nat->Nat
 κ:Nat->Nat
 nl:Nat->Bool
def G.ok(g:G)(b o:Nat):Prop:=∀ k,g.φ b=some k->o<k
mutual
def Rep(w:World)(g:G):LV->Value->Prop
 |.dead,_=>True
 |.nil,v=>v=.slice none 0 0
 |.emp,v=>∃ A,v=.slice A 0 0
 |.atom x,v=>v=x
 |.sl t n cs,v=>∃ A cap,v=.slice A n cap/\n<=cap/\(cap<=maxLen/\(A=none->cap=0))/\(t≠0->(g.nl t=false->A=some ⟨g.β t,0,none⟩)/\cap=g.κ t/\t<g.z)/\(cs≠[]->∃ b o,A=some ⟨b,o,none⟩/\aP w g b cs o)
 |.ms l o n,v=>∃ A cap,v=.slice A n cap/\n<=cap/\cap<=maxLen/\(o=0->cap=g.κ l/\(g.nl l=false->A=some ⟨g.β l,0,none⟩))/\(n≠0->A=some ⟨g.β l,o,none⟩)/\l<g.z
 |.ag cs,v=>∃ a:List Value,v=.agg a.toArray/\aC w g cs a
 |.pt l o,v=>v=.pointer (some ⟨g.β l,o,none⟩)/\l<g.z
 |.ep cs,v=>∃ b o,v=.pointer (some ⟨b,o,none⟩)/\aP w g b cs o
 |.mp l,v=>v=.map (some (g.β l))/\l<g.z
 |.kap l n c,v=>∃ A,v=.slice A n c/\n<=c/\c<=maxLen/\g.κ l=c/\l<g.z/\(g.nl l=false->A=some ⟨g.β l,0,none⟩)/\(g.nl l=true->c=0)
 |.pe l cs,v=>v=.pointer (some ⟨g.β l,0,none⟩)/\l<g.z/\aP w g (g.β l) cs 0
 |.fn f IQ,v=>∃ a:List Value,v=.func f #[] a.toArray/\aC w g IQ a
 |.tu O4,v=>∃ a:List Value,v=.tuple a.toArray/\aC w g O4 a
 |.qu t o n cs,v=>∃ A cap,v=.slice A n cap/\n<=cap/\cap<=maxLen/\t<g.z/\o+cap=g.κ t % qM/\(cap≠0->A=some ⟨g.β t,g.κ t / qM+o,none⟩)/\(cs≠[]->∃ b o,A=some ⟨b,o,none⟩/\aP w g b cs o)
def aC(w:World)(g:G):List LV->List Value->Prop
 |[],vs=>vs=[]
 |c::cs,vs=>∃ v a,vs=v::a/\Rep w g c v/\aC w g cs a
def aP(w:World)(g:G)(b:Nat):List LV->Nat->Prop
 |[],_=>True
 |c::cs,o=>(∃ v,w.cell? ⟨b,o,none⟩=some v/\Rep w g c v/\g.ok b o)/\aP w g b cs (o+1)
end
structure Ext(w:World)(g:G)(w':World)(g':G):Prop where
 os:w'.os=w.os
 tape:w'.tape=w.tape
 output:w'.output=w.output
 size:w.heap.size<=w'.heap.size
 z:g.z<=g'.z
 β:∀ l,l<g.z->g'.β l=g.β l
 κ:∀ l,l<g.z->g'.κ l=g.κ l
 nl:∀ l,l<g.z->g'.nl l=g.nl l
 still:∀ b,b<w.heap.size->g.φ b=none->g'.φ b=none/\w'.heap[b]?=w.heap[b]?
 part:∀ b k,b<w.heap.size->g.φ b=some k->∃ k',g'.φ b=some k'/\k<=k'/\∀ o,o<k->w'.cell? ⟨b,o,none⟩=w.cell? ⟨b,o,none⟩
theorem Ext.refl(w:World)(g:G):Ext w g w g:=
 ⟨rfl,rfl,rfl,au _,au _,fun _ _=>rfl,fun _ _=>rfl,fun _ _=>rfl,fun _ _ h=>⟨h,rfl⟩,fun _ k _ h=>⟨k,h,au _,fun _ _=>rfl⟩⟩
theorem Ext.trans{w m e:World}{g j c:G}(h:Ext w g m j)(k:Ext m j e c):Ext w g e c:=by
 refine⟨k.os.trans h.os,k.tape.trans h.tape,k.output.trans h.output,er h.size k.size,er h.z k.z,?_,?_,?_,?_,?_⟩
 .intro l a;rw[k.β l (cz a h.z),h.β l a]
 .intro l a;rw[k.κ l (cz a h.z),h.κ l a]
 .intro l a;rw[k.nl l (cz a h.z),h.nl l a]
 .intro b d o;obtain⟨f,n⟩:=h.still b d o;obtain⟨r,s⟩:=k.still b (cz d h.size) f
  grind
 .intro b q d p;obtain⟨t,f,n,v⟩:=h.part b q d p;obtain⟨y,r,s,x⟩:=k.part b t (cz d h.size) f
  grind
def oI{w:World}{a:Addr}{v:Value}(h:w.cell? a=some v):a.block<w.heap.size:=by
 unfold World.cell? at h;cases hb:w.heap[a.block]? with
 |none=>simp_all
 |some o=>grind
theorem Ext.cell{w f:World}{g c:G}(h:Ext w g f c){b o:Nat}{v:Value}(e:w.cell? ⟨b,o,none⟩=some v)(j:g.ok b o):
 f.cell? ⟨b,o,none⟩=some v/\c.ok b o:=by
 have d:b<w.heap.size:=oI e;cases a:g.φ b with
 |none=>
  obtain⟨l,m⟩:=h.still b d a;refine⟨?_,fun k r=>by grind⟩
  grind [World.cell?_of_block]
 |some k=>
  obtain⟨t,l,m,n⟩:=h.part b k d a;have p:=j k a;refine⟨(n o p).trans e,fun q s=>?_⟩
  grind
mutual
theorem Rep.mono{w J:World}{g H:G}(h:Ext w g J H):∀(I:LV) (v:Value),Rep w g I v->Rep J H I v
 |.dead,_,_=>by grind [Rep]
 |.nil,v,hr=>by grind [Rep]
 |.emp,v,hr=>by grind [Rep]
 |.atom x,v,hr=>by grind [Rep]
 |.sl t n cs,v,hr=>by
  simp only[Rep]at hr ⊢;obtain⟨A,a,d,E,D,r,B⟩:=hr;refine⟨A,a,d,E,D,fun K=>?_,fun C=>?_⟩
  .obtain⟨s,j,e⟩:=r K;exact⟨by rw[h.β t e,h.nl t e];omega,by rw[h.κ t e];omega,cz e h.z⟩
  .obtain⟨b,o,y,F⟩:=B C;exact⟨b,o,y,aP.mono h b cs o F⟩
 |.ms l o n,v,hr=>by simp only[Rep]at hr ⊢;obtain⟨A,a,s,j,e,L,p,q⟩:=hr;exact⟨A,a,s,j,e,by rw[h.κ l q,h.β l q,h.nl l q];omega,by rw[h.β l q];omega,cz q h.z⟩
 |.ag cs,v,hr=>by simp only[Rep]at hr ⊢;obtain⟨k,d,m⟩:=hr;exact⟨k,d,aC.mono h cs k m⟩
 |.pt l o,v,hr=>by simp only[Rep]at hr ⊢;exact⟨by rw[h.β l hr.2];grind,cz hr.2 h.z⟩
 |.ep cs,v,hr=>by simp only[Rep]at hr ⊢;obtain⟨b,o,d,m⟩:=hr;exact⟨b,o,d,aP.mono h b cs o m⟩
 |.mp l,v,hr=>by simp only[Rep]at hr ⊢;exact⟨by rw[h.β l hr.2];grind,cz hr.2 h.z⟩
 |.fn f cs,v,hr=>by simp only[Rep]at hr ⊢;obtain⟨k,d,m⟩:=hr;exact⟨k,d,aC.mono h cs k m⟩
 |.tu cs,v,hr=>by simp only[Rep]at hr ⊢;obtain⟨k,d,m⟩:=hr;exact⟨k,d,aC.mono h cs k m⟩
 |.qu t o n cs,v,hr=>by simp only[Rep]at hr ⊢;obtain⟨A,a,d,E,D,r,N,y,B⟩:=hr;refine⟨A,a,d,E,D,cz r h.z,by rw[h.κ t r];omega,by rw[h.κ t r,h.β t r];omega,fun C=>?_⟩;obtain⟨b,o,y,F⟩:=B C;exact⟨b,o,y,aP.mono h b cs o F⟩
 |.kap l n c,v,hr=>by simp only[Rep]at hr ⊢;obtain⟨A,s,j,e,L,p,q,M⟩:=hr;exact⟨A,s,j,e,by rw[h.κ l p];omega,cz p h.z,by rw[h.β l p,h.nl l p];omega,by rw[h.nl l p];omega⟩
 |.pe l cs,v,hr=>by simp only[Rep]at hr ⊢;obtain⟨s,j,e⟩:=hr;exact⟨by rw[h.β l j];omega,cz j h.z,by rw[h.β l j];exact aP.mono h (g.β l) cs 0 e⟩
theorem aC.mono{w e:World}{g b:G}(h:Ext w g e b):∀(cs:List LV) (d:List Value),aC w g cs d->aC e b cs d
 |[],_,hr=>by grind [aC]
 |c::cs,_,hr=>by simp only[aC]at hr ⊢;obtain⟨v,a,k,f,j⟩:=hr;exact⟨v,a,k,Rep.mono h c v f,aC.mono h cs a j⟩
theorem aP.mono{w d:World}{g a:G}(h:Ext w g d a)(b:Nat):∀(cs:List LV) (o:Nat),aP w g b cs o->aP d a b cs o
 |[],_,_=>by grind [aP]
 |c::cs,o,hr=>by simp only[aP]at hr ⊢;obtain⟨⟨v,e,f,j⟩,h4⟩:=hr;obtain⟨k,l⟩:=h.cell e j;exact⟨⟨v,k,Rep.mono h c v f,l⟩,aP.mono h b cs (o+1) h4⟩
end
inductive cK where
 |dead
 |own (e s n:Nat)
 |box (e s:Nat) (cs:List LV)
 |map (ag:Bool) (ks:List IntKind) (es:List (List Int×LV))
 |que (e n:Nat)
 |frz (ag:Bool) (ks:List IntKind) (es:List (List Int×LV))
structure St where
 z:Nat
 H:Nat->cK
def blk(g:G)(a:St)(l:Nat):Prop:=match a.H l with
 |.dead=>False
 |.own _ _ _=>g.nl l=false
 |.box _ _ _=>g.nl l=false
 |.map _ _ _=>g.nl l=false
 |.que _ _=>g.nl l=false
 |.frz _ _ _=>False
def fb:List IntKind->AN->List Value
 |k::ks,n::ns=>.int k n::fb ks ns
 |_,_=>[]
def cj(ag:Bool)(a:List IntKind)(b:AN):Value:=if ag then .agg (fb a b).toArray else(fb a b).headD undef
def yC(w:World)(g:G)(l:Nat)(ag:Bool)(c:List IntKind)(b:List (AN×LV)):Prop:=
 g.nl l=false/\(∀ p∈b,p.1.length=c.length)/\∃(a:List MapEntry) (clock:Nat),w.heap[g.β l]?=some (.map a.toArray clock)/\a.map (·.key)=b.map (fun p=>cj ag c p.1)/\
  aC w g (b.map (·.2)) (a.map (·.val))/\g.φ (g.β l)=some 0/\(∀ x∈a,x.born<clock)/\(a.map (·.born)).Nodup
def DF(w:World)(g:G)(l e n:Nat):Prop:=
 g.nl l=false/\(∃ a:Array Value,w.heap[g.β l]?=some (.cells a e (0,0))/\a.size=g.κ l / qM+g.κ l % qM)/\g.φ (g.β l)=some (g.κ l / qM+n)/\n<=g.κ l % qM/\g.κ l % qM<=maxLen
def Gn(w:World)(g:G)(l:Nat)(ag:Bool)(c:List IntKind)(b:List (AN×LV)):Prop:=
 g.nl l=false/\l<g.z/\(∀ p∈b,p.1.length=c.length)/\∃(a:List MapEntry) (clock:Nat),w.heap[g.β l]?=some (.map a.toArray clock)/\a.map (·.key)=b.map (fun p=>cj ag c p.1)/\
  aC w g (b.map (·.2)) (a.map (·.val))/\g.φ (g.β l)=none/\(∀ x∈a,x.born<clock)/\(a.map (·.born)).Nodup
def Gn.keep{w f:World}{g d:G}{l:Nat}{ag:Bool}{e:List IntKind}{c:List (AN×LV)}(h:Gn w g l ag e c)(a:Ext w g f d):Gn f d l ag e c:=by obtain⟨s,b,k,j,clock,m,n,o,p,q⟩:=h;obtain⟨t,r⟩:=a.still _ (fu.1 m).1 p;exact⟨by rw[a.nl l b];omega,cz b a.z,k,j,clock,by rw[a.β l b,r];omega,n,aC.mono a _ _ o,by rw[a.β l b];omega,q⟩
@[simp] def gL:cK->Bool
  |.frz _ _ _=>true
  |_=>false
def vW{o:cK}(h:gL o=true):∃ ag b a,o=.frz ag b a:=by cases o<;>first|exact⟨_,_,_,rfl⟩|cases h
def Ga:List (Nat×List Value):=[(0,Lib.deBruijn64tab.map fun(n:Nat)=>.int .u8 n)]
def iA(w:World)(g:G):Prop:=∀ T∈Ga,∀(j:Nat) (v:Value),T.2[j]?=some v->w.cell? ⟨T.1,j,none⟩=some v/\g.φ T.1=none
def iA.keep{w b:World}{g a:G}(h:iA w g)(f:Ext w g b a):iA b a:=fun T e j v k=>by
 obtain⟨c,d⟩:=h T e j v k;obtain⟨l,m⟩:=f.still T.1 (oI c) d
 grind [World.cell?_of_block]
structure Aside(w:World)(g:G)(st:St):Prop where
 frz:∀ l ag ks es,st.H l=.frz ag ks es->Gn w g l ag ks es
 one:∀ l l',gL (st.H l)=true->gL (st.H l')=true->g.β l=g.β l'->l=l'
 glob:iA w g
def Aside.lt{w:World}{g:G}{st:St}(h:Aside w g st){l:Nat}(hl:gL (st.H l)=true):l<g.z:=by obtain⟨ag,ks,es,e⟩:=vW hl;exact(h.frz l ag ks es e).2.1
theorem Aside.keep{w o:World}{g k:G}{n a:St}(h:Aside w g n)(d:Ext w g o k)(f:∀ l,gL (a.H l)=true->a.H l=n.H l):Aside o k a:=by
 refine⟨fun l ag t r s=>?_,fun l j b c m=>?_,h.glob.keep d⟩
 .have e:=f l (by simp_all);rw[s]at e;exact(h.frz l ag t r e.symm).keep d
 .have p:=f l b;have q:=f j c;rw[p]at b;rw[q]at c;rw[d.β l (h.lt b),d.β j (h.lt c)]at m;exact h.one l j b c m
def tQ{w:World}{g:G}{a:St}(h:iA w g)(d:∀ l,a.H l=.dead):Aside w g a:=
 ⟨fun l ag e c b=>(by grind),fun l f b=>(by simp_all),h⟩
def iA.phi{w:World}{g a:G}(h:iA w g)(e:∀ b o v,w.cell? ⟨b,o,none⟩=some v->g.φ b=none->a.φ b=none):iA w a:=fun T c j v d=>by
 obtain⟨f,k⟩:=h T c j v d
 grind
structure Inv(w:World)(g:G)(st:St):Prop where
 z:g.z=st.z
 pos:0<st.z
 fresh:∀ l,st.z<=l->st.H l=.dead
 lt:∀ l,blk g st l->g.β l<w.heap.size
 inj:∀ l l',blk g st l->blk g st l'->g.β l=g.β l'->l=l'
 own:∀ l e s n,st.H l=.own e s n->n<=g.κ l/\g.κ l<=maxLen/\(g.nl l=true->g.κ l=0)/\(g.nl l=false->∃ o8:Array Value,w.heap[g.β l]?=some (.cells o8 e (0,0))/\o8.size=g.κ l*s/\g.φ (g.β l)=some (n*s))
 box:∀ l e s cs,st.H l=.box e s cs->g.κ l<=maxLen/\(g.nl l=true->g.κ l=0/\cs=[])/\(g.nl l=false->∃ o8:List Value,w.heap[g.β l]?=some (.cells o8.toArray e (0,0))/\o8.length=g.κ l*s/\cs.length<=o8.length/\aC w g cs (o8.take cs.length)/\g.φ (g.β l)=some 0)
 mp:∀ l ag ks es,st.H l=.map ag ks es->yC w g l ag ks es
 qu:∀ l e n,st.H l=.que e n->DF w g l e n
 aside:Aside w g st
def yC.keep{w d:World}{g b:G}{l:Nat}{ag:Bool}{f:List IntKind}{e:List (AN×LV)}(h:yC w g l ag f e)(a:Ext w g d b)(dF:l<g.z)(p:d.heap[g.β l]?=w.heap[g.β l]?)(c:b.φ (g.β l)=g.φ (g.β l)):yC d b l ag f e:=by obtain⟨q,k,j,clock,r,m,n,s,o⟩:=h;refine⟨by rw[a.nl l dF];omega,k,j,clock,by rw[a.β l dF,p];omega,m,aC.mono a _ _ n,by rw[a.β l dF,c];omega,o⟩
def yC.blk_lt{w:World}{g:G}{l:Nat}{ag:Bool}{b:List IntKind}{a:List (AN×LV)}(h:yC w g l ag b a):g.β l<w.heap.size:=by
 obtain⟨_,_,_,_,c,_⟩:=h
 grind
def Inv.map_lt{w:World}{g:G}{a:St}(h:Inv w g a){l:Nat}{ag:Bool}{e:List IntKind}{c:List (AN×LV)}(d:a.H l=.map ag e c):l<g.z:=by
 rw[h.z];rcases dC l a.z with b|b
 .omega
 .rw[h.fresh l b]at d;grind
def DF.keep{w d:World}{g b:G}{l e n:Nat}(h:DF w g l e n)(a:Ext w g d b)(dF:l<g.z)(f:d.heap[g.β l]?=w.heap[g.β l]?)(c:b.φ (g.β l)=g.φ (g.β l)):DF d b l e n:=by obtain⟨k,⟨j,m,o⟩,h4,h5⟩:=h;refine⟨by rw[a.nl l dF];omega,⟨j,by rw[a.β l dF,f];omega,by rw[a.κ l dF];omega⟩,by rw[a.β l dF,c,a.κ l dF];omega,by rw[a.κ l dF];omega⟩
def DF.blk_lt{w:World}{g:G}{l e n:Nat}(h:DF w g l e n):g.β l<w.heap.size:=by
 obtain⟨_,⟨_,a,_⟩,_⟩:=h
 grind
def Inv.que_lt{w:World}{g:G}{a:St}(h:Inv w g a){l e n:Nat}(c:a.H l=.que e n):l<g.z:=by
 rw[h.z];rcases dC l a.z with b|b
 .omega
 .rw[h.fresh l b]at c;grind
def Inv.que_blk{w:World}{g:G}{a:St}(h:Inv w g a){l e n:Nat}(b:a.H l=.que e n):blk g a l:=by unfold blk;rw[b];exact(h.qu l e n b).1
def Inv.map_blk{w:World}{g:G}{a:St}(h:Inv w g a){l:Nat}{ag:Bool}{d:List IntKind}{b:List (AN×LV)}(c:a.H l=.map ag d b):blk g a l:=by unfold blk;rw[c];exact(h.mp l ag d b c).1
abbrev af:=Nat->LV
def cY(a:af)(i:Nat)(v:LV):af:=fun j=>if j=i then v else a j
def dY(w:World)(g:G)(a:Act)(b:af):Prop:=∀ i,Rep w g (b i) (a.tmps.getD i undef)
theorem dY.mono{w d:World}{g c:G}{a:Act}{b:af}(h:dY w g a b)(e:Ext w g d c):dY d c a b:=
 fun i=>Rep.mono e _ _ (h i)
theorem dY.put{w:World}{g:G}{a:Act}{fr:af}(h:dY w g a fr){d:Nat}(hd:d<a.tmps.size){v:Value}{lv:LV}(hv:Rep w g lv v):
 dY w g (a.put (some d) v) (cY fr d lv):=by
 intro i;simp only[Act.put,cY];by_cases hi:i=d
 .simp_all
 .rw[ac hi];have:=h i;rw[jz,mv,ac (fun e=>hi e.symm),<- jz];omega
theorem cF(a:Act)(d:Option Tmp)(v:Value):(a.put d v).tmps.size=a.tmps.size:=by cases d<;>simp[Act.put]
theorem put_defers(a:Act)(d:Option Tmp)(v:Value):(a.put d v).defers=a.defers:=by cases d<;>rfl
end Aw
end Go.Proofs.YtbgngpdonpeboaaGreatDoor
