/- Lemmas. -/
import Derived.Below
import Derived.Laws.AppendOwn
import Derived.Maps.AppendAt
import Derived.OwnWalk
import Derived.Deep.Draws
import Derived.Laws.Rows
import Derived.Lib.TrailingZeros
set_option linter.defProp false
namespace Go.Proofs.YtbgngpdonpeboaaGreatDoor
abbrev QP:=List (Int×Int)
abbrev PQ:=List Nat
abbrev PP:=List Int
variable{p:Prop}
def O (h:p:=by omega):p:=h
def Y (h:p:=by simp):p:=h
def zZ {a b:Prop}(k:b)(h:b→a:=by simp only[Go.Proofs.YtbgngpdonpeboaaGreatDoor.Aw.ak,reduceIte];exact fun h=>h):a:=h k
def zW {a b:Int}(h:a=b:=by omega)(h0:-9223372036854775808≤a:=by omega)(h1:a≤9223372036854775807:=by omega):Go.IntKind.i64.wrap a=b:=by
 subst h
 simp only[Go.IntKind.wrap,Go.IntKind.signed,Go.IntKind.bits]
 simp
 split <;> omega
def aa:=@if_neg
def aq:=@List.mem_cons_of_mem
def ai:=@List.mem_cons
def am:=@List.mem_append
def ap:=@Option.some.injEq
def ar:=@List.mem_cons_self
def bv:=@List.getD_eq_getElem?_getD
def bu:=@List.getElem?_eq_getElem
def ao:=@List.mem_map
def bi:=@List.mem_singleton
def ac:=@if_pos
def ax:=@List.map_cons
def bo:=@List.nodup_append
def cb:=@List.length_append
def au:=@Nat.le_refl
def bw:=@List.nodup_cons
def dq:=@Classical.byContradiction
def fh:=@List.take_succ_eq_append_getElem
def dg:=@List.mem_append_left
def cy:=@List.count_append
def dd:=@List.mem_map_of_mem
def dc:=@Nat.lt_of_lt_of_le
def cj:=@List.mem_filter
def cz:=@List.map_append
def cX:=@List.count_cons
def ej:=@List.take_of_length_le
def dj:=@List.length_take
def dE:=@List.mem_append_right
def dt:=@List.flatMap_cons
def fD:=@List.pairwise_iff_getElem
def dw:=@List.append_assoc
def gu:=@List.Nodup.length_le_of_subset
def er:=@List.getElem_of_mem
def du:=@List.length_map
def dz:=@List.getElem_mem
def eu:=@List.filter_sublist
def gv:=@List.exists_mem_of_ne_nil
def gw:=@List.take_append_drop
def ig:=@Array.getElem?_eq_some_iff
def ev:=@Nat.mod_eq_of_lt
def dT:=@List.append_nil
def jc:=@List.eq_nil_of_length_eq_zero
def fo:=@List.append_of_mem
def jm:=@List.drop_eq_getElem_cons
def jd:=@List.perm_ext_iff_of_nodup
def gx:=@List.length_filter_le
def jf:=@List.map_congr_left
def dC:=@List.map_map
def ec:=@Nat.lt_or_ge
def fI:=@List.mem_flatten
def fq:=@List.take_length
def fu:=@List.mem_flatMap
def gm:=@decide_eq_true_iff
def gd:=@List.pairwise_map
def gg:=@Bool.and_eq_true
def fj:=@Prod.mk.injEq
def fa:=@Nat.le_trans
def gy:=@List.length_drop
def gz:=@List.not_mem_nil
def jg:=@List.length_pos_iff
def ir:=@Bool.false_eq_true
def ik:=@List.reverse_perm
def lf:=@List.dropLast_concat_getLast
def kw:=@List.getElem?_append_left
def lg:=@List.idxOf_lt_length_of_mem
def kj:=@Option.map_eq_some_iff
def kk:=@List.pairwise_cons
def jh:=@List.size_toArray
def iu:=@List.mem_reverse
def kT:=@List.perm_append_comm
def ii:=@List.mem_range
def kc:=@List.ne_nil_of_mem
def km:=@List.nodup_iff_count
def jv:=@decide_eq_true_eq
def ji:=@Option.some.inj
def mm:=@List.sublist_flatten_of_mem
def kf:=@List.count_reverse
def ef:=@if_true
def nm:=@List.exists_cons_of_ne_nil
def oi:=@List.getElem?_append_right
def nq:=@Option.bind_eq_some_iff
def lh:=@Nat.lt_trichotomy
def oj:=@List.getElem_append_right
def mo:=@Array.replicate_succ
def oY:=@Array.getElem?_setIfInBounds
def kX:=@List.cons.injEq
def jw:=@Nat.zero_add
def mq:=@List.append_toArray
def lD:=@List.foldl_append
def qp:=@List.eq_nil_iff_forall_not_mem
def jx:=@Nat.zero_le
def gI:=@if_false
def mw:=@List.perm_middle
def lL:=@List.all_eq_true
def mz:=@List.push_toArray
def ij:=@or_false
def lk:=@Prod.swap_swap
def uk:=@List.set_eq_take_append_cons_drop
def nr:=@List.getElem_idxOf
def nt:=@List.getElem?_take
def ol:=@Nat.eq_of_testBit_eq
def om:=@List.reverse_reverse
def oo:=@List.pairwise_append
def o0:=@List.pairwise_lt_range
def mc:=@decide_eq_true
def nu:=@List.getElem_take
def oq:=@List.flatten_append
def ot:=@List.flatMap_append
def qq:=@List.mem_of_find?_eq_some
def fJ:=@not_or
def pd:=@List.getElem?_eq_none
def pf:=@Array.getElem?_toList
def ph:=@List.getElem?_toArray
def mA:=@Nat.mul_comm
def nv:=@List.any_eq_true
def jj:=@Prod.ext
def lp:=@Nat.ne_of_lt
def nw:=@List.flatMap_nil
def ou:=@List.count_pos_iff
def qt:=@decide_eq_false_iff_not
def qv:=@List.length_eq_zero_iff
def ov:=@of_decide_eq_true
def ow:=@List.getElem?_map
def ny:=@decide_eq_false
def jk:=@Ne.symm
def po:=@List.filter_append
def se:=@List.Perm.append_left
def mB:=@List.map_nil
def qw:=@List.mem_of_mem_take
def rf:=@List.forall_mem_cons
def pq:=@List.getElem_drop
def pw:=@List.ext_getElem?
def sf:=@List.getLast_eq_getElem
def sh:=@List.filter_eq_self
def pz:=@List.getElem_map
def qd:=@List.filter_cons
def me:=@Nat.mod_lt
def nc:=@Nat.add_mul
def od:=@getElem!_pos
def ul:=@Array.getD_eq_getD_getElem?
def sk:=@List.Pairwise.filter
def rh:=@List.drop_drop
def um:=@List.getElem_append_left
def sm:=@List.map_eq_nil_iff
def uo:=@Nat.testBit_mul_two_pow
def sn:=@List.map_drop
def sr:=@Nat.eq_zero_or_pos
def sx:=@Nat.add_sub_cancel
def rl:=@List.find?_some
def rp:=@List.length_set
def sy:=@of_decide_eq_false
def sT:=@List.find?_eq_none
def uq:=@List.length_pos_of_mem
def ur:=@List.find?_cons_of_neg
def ut:=@List.drop_of_length_le
def ta:=@not_true_eq_false
def tf:=@List.Sublist.refl
def tg:=@List.reverse_cons
def uu:=@List.eq_nil_or_concat
def uv:=@List.concat_eq_append
def rq:=@List.drop_left
def uz:=@List.Pairwise.sublist
def lq:=@Iff.rfl
def ti:=@List.ext_getElem
def tj:=@Nat.lt_succ_self
def vc:=@Nat.mul_le_mul_right
def tn:=@List.take_append
def tp:=@List.cons_ne_nil
def zn:=@List.length_filter_lt_length_iff_exists
def qe:=@Int.le_refl
def vd:=@beq_eq_false_iff_ne
def wm:=@Array.getElem?_eq_getElem
def tr:=@Bool.eq_iff_iff
def wn:=@List.append_eq_append_iff
def ve:=@BitVec.toNat_ofNat
def vf:=@List.getElem?_drop
def Kd:=@List.toArray_range
def ts:=@List.take_left
def tK:=@List.take_take
def tT:=@List.Perm.refl
def wo:=@Int.eq_ofNat_of_zero_le
def wq:=@List.pairwise_singleton
def vg:=@List.getElem?_set
def vh:=@Nat.add_mod_right
def vj:=@List.length_range
def ru:=@Nat.mul_one
def wu:=@List.filter_eq_nil_iff
def zo:=@List.Perm.append_right
def ww:=@List.length_eq_one_iff
def wz:=@Nat.div_eq_of_lt
def vk:=@List.getElem_zip
def vm:=@List.nodup_range
def xc:=@List.map_snd_zip
def vn:=@List.map_flatten
def ua:=@Nat.mod_self
def vo:=@Nat.min_eq_left
def xd:=@List.findIdx_getElem
def xe:=@List.mem_of_mem_drop
def xf:=@List.mem_iff_getElem
def vp:=@Nat.not_lt_zero
def zq:=@List.drop_append_of_le_length
def xg:=@List.drop_succ_cons
def xh:=@List.length_reverse
def qf:=@and_true
def ub:=@Nat.le_succ
def zr:=@Array.extract_eq_self_of_le
def zt:=@Int.tmod_eq_emod_of_nonneg
def zw:=@Array.getElem?_append_left
def ud:=@beq_iff_eq
def zx:=@List.ne_nil_of_length_pos
def zy:=@Array.mapM_eq_mapM_toList
def AC:=@List.getElem?_eq_some_iff
def qg:=@Or.comm
def xj:=@Nat.succ_mul
def xk:=@Nat.testBit_succ
def xm:=@List.drop_length
def AI:=@Nat.add_right_cancel_iff
def vq:=@Nat.le_of_eq
def xn:=@Nat.le_add_right
def xo:=@List.map_flatMap
def AN:=@List.map_fst_zip
def vt:=@true_implies
def AS:=@Option.isSome_iff_exists
def xp:=@List.map_toArray
def xq:=@List.range_succ
def xr:=@List.length_zip
def Kp:=@Nat.mul_eq_zero
def AT:=@List.not_of_lt_findIdx
def A0:=@List.map_eq_append_iff
def By:=@List.append_eq_nil_iff
def BY:=@List.pairwise_flatten
def B0:=@Nat.le_div_iff_mul_le
def Dm:=@Array.getElem?_modify
def xt:=@exists_eq_left
def ry:=@dif_pos
def Do:=@Array.mem_of_getElem?
def D1:=@Classical.choose_spec
def EQ:=@List.idxOf_le_length
def E0:=@List.perm_cons_erase
def FS:=@Nat.pow_le_pow_right
def ue:=@true_and
def F0:=@List.map_eq_cons_iff
def GB:=@Nat.div_lt_of_lt_mul
def Ha:=@List.getLast?_concat
def Hb:=@Array.mem_toList_iff
def xu:=@Bool.and_true
def xv:=@false_implies
def La:=@List.drop_set_of_lt
def Hc:=@List.perm_iff_count
def Hd:=@List.reverse_append
def Hk:=@List.getElem?_range
def xw:=@Nat.zero_mul
def uf:=@Eq.symm
def xy:=@Nat.mul_pos
def xz:=@List.map_id
namespace Aw
open Go Go.RowKit
inductive LV where
 |dead
 |nil
 |atom (v:Value)
 |sl (t n:Nat) (cs:List LV)
 |ms (l o n:Nat)
 |ag (cs:List LV)
 |pt (l o:Nat)
 |ep (cs:List LV)
 |mp (l:Nat)
 |fn (f:Fn) (Kz:List LV)
 |tu (vs:List LV)
 |qu (t o n:Nat) (cs:List LV)
 |emp
 |pe (l:Nat) (cs:List LV)
 |kap (l n c:Nat)
abbrev QQ:=List LV
def qM:Nat:=18446744073709551616
structure G where
 z:Nat
 φ:Nat->Option Nat
 β:Nat->Nat
 κ:Nat->Nat
 nl:Nat->Bool
def G.ok(g:G)(b o:Nat):Prop:=∀ k,g.φ b=some k->o<k
mutual
def Rep(w:World)(g:G):LV->Value->Prop
 |.dead,_=>True
 |.nil,v=>v=.slice none 0 0
 |.emp,v=>∃ A,v=.slice A 0 0
 |.atom x,v=>v=x
 |.sl t n cs,v=>∃ A cap,v=.slice A n cap/\n<=cap/\(cap<=maxLen/\(A=none->cap=0))/\(t≠0->(g.nl t=false->A=some ⟨g.β t,0,none⟩)/\cap=g.κ t/\t<g.z)/\(cs≠[]->∃ b o,A=some ⟨b,o,none⟩/\aR w g b cs o)
 |.ms l o n,v=>∃ A cap,v=.slice A n cap/\n<=cap/\cap<=maxLen/\(o=0->cap=g.κ l/\(g.nl l=false->A=some ⟨g.β l,0,none⟩))/\(n≠0->A=some ⟨g.β l,o,none⟩)/\l<g.z
 |.ag cs,v=>∃ a:List Value,v=.agg a.toArray/\aG w g cs a
 |.pt l o,v=>v=.pointer (some ⟨g.β l,o,none⟩)/\l<g.z
 |.ep cs,v=>∃ b o,v=.pointer (some ⟨b,o,none⟩)/\aR w g b cs o
 |.mp l,v=>v=.map (some (g.β l))/\l<g.z
 |.kap l n c,v=>∃ A,v=.slice A n c/\n<=c/\c<=maxLen/\g.κ l=c/\l<g.z/\(g.nl l=false->A=some ⟨g.β l,0,none⟩)/\(g.nl l=true->c=0)
 |.pe l cs,v=>v=.pointer (some ⟨g.β l,0,none⟩)/\l<g.z/\aR w g (g.β l) cs 0
 |.fn f Kz,v=>∃ a:List Value,v=.func f #[] a.toArray/\aG w g Kz a
 |.tu lvs,v=>∃ a:List Value,v=.tuple a.toArray/\aG w g lvs a
 |.qu t o n cs,v=>∃ A cap,v=.slice A n cap/\n<=cap/\cap<=maxLen/\t<g.z/\o+cap=g.κ t % qM/\(cap≠0->A=some ⟨g.β t,g.κ t / qM+o,none⟩)/\(cs≠[]->∃ b o,A=some ⟨b,o,none⟩/\aR w g b cs o)
def aG(w:World)(g:G):QQ->List Value->Prop
 |[],vs=>vs=[]
 |c::cs,vs=>∃ v a,vs=v::a/\Rep w g c v/\aG w g cs a
def aR(w:World)(g:G)(b:Nat):QQ->Nat->Prop
 |[],_=>True
 |c::cs,o=>(∃ v,w.cell? ⟨b,o,none⟩=some v/\Rep w g c v/\g.ok b o)/\aR w g b cs (o+1)
end
structure Ext(w:World)(g:G)(w':World)(g':G):Prop where
 os:w'.os=w.os
 tape:w'.tape=w.tape
 output:w'.output=w.output
 size:w.heap.size<=w'.heap.size
 z:g.z<=g'.z
 β:∀ l,l<g.z->g'.β l=g.β l
 κ:∀ l,l<g.z->g'.κ l=g.κ l
 nl:∀ l,l<g.z->g'.nl l=g.nl l
 still:∀ b,b<w.heap.size->g.φ b=none->g'.φ b=none/\w'.heap[b]?=w.heap[b]?
 part:∀ b k,b<w.heap.size->g.φ b=some k->∃ k',g'.φ b=some k'/\k<=k'/\∀ o,o<k->w'.cell? ⟨b,o,none⟩=w.cell? ⟨b,o,none⟩
theorem Ext.refl(w:World)(g:G):Ext w g w g:=
 ⟨rfl,rfl,rfl,au _,au _,fun _ _=>rfl,fun _ _=>rfl,fun _ _=>rfl,fun _ _ h=>⟨h,rfl⟩,fun _ k _ h=>⟨k,h,au _,fun _ _=>rfl⟩⟩
theorem Ext.trans{w m e:World}{g j c:G}(h:Ext w g m j)(k:Ext m j e c):Ext w g e c:=by
 refine⟨k.os.trans h.os,k.tape.trans h.tape,k.output.trans h.output,fa h.size k.size,fa h.z k.z,?_,?_,?_,?_,?_⟩
 .intro l a;rw[k.β l (dc a h.z),h.β l a]
 .intro l a;rw[k.κ l (dc a h.z),h.κ l a]
 .intro l a;rw[k.nl l (dc a h.z),h.nl l a]
 .intro b d o;obtain⟨f,n⟩:=h.still b d o;obtain⟨r,s⟩:=k.still b (dc d h.size) f
  grind
 .intro b q d p;obtain⟨t,f,n,v⟩:=h.part b q d p;obtain⟨y,r,s,x⟩:=k.part b t (dc d h.size) f
  grind
def pU{w:World}{a:Addr}{v:Value}(h:w.cell? a=some v):a.block<w.heap.size:=by
 unfold World.cell? at h;cases hb:w.heap[a.block]? with
 |none=>simp_all
 |some o=>grind
theorem Ext.cell{w j:World}{g d:G}(h:Ext w g j d){b o:Nat}{v:Value}(f:w.cell? ⟨b,o,none⟩=some v)(c:g.ok b o):
 j.cell? ⟨b,o,none⟩=some v/\d.ok b o:=by
 have e:b<w.heap.size:=pU f;cases a:g.φ b with
 |none=>
  obtain⟨l,m⟩:=h.still b e a;refine⟨?_,fun k r=>by grind⟩
  grind [World.cell?_of_block]
 |some k=>
  obtain⟨t,l,m,n⟩:=h.part b k e a;have p:=c k a;refine⟨(n o p).trans f,fun q s=>?_⟩
  grind
mutual
theorem Rep.mono{w I:World}{g F:G}(h:Ext w g I F):∀(H:LV) (v:Value),Rep w g H v->Rep I F H v
 |.dead,_,_=>by grind [Rep]
 |.nil,v,hr=>by grind [Rep]
 |.emp,v,hr=>by grind [Rep]
 |.atom x,v,hr=>by grind [Rep]
 |.sl t n cs,v,hr=>by
  simp only[Rep]at hr ⊢;obtain⟨A,a,d,E,D,s,m⟩:=hr;refine⟨A,a,d,E,D,fun J=>?_,fun Tv=>?_⟩
  .obtain⟨y,j,e⟩:=s J;exact⟨by rw[h.β t e,h.nl t e];omega,by rw[h.κ t e];omega,dc e h.z⟩
  .obtain⟨b,o,B,C⟩:=m Tv;exact⟨b,o,B,aR.mono h b cs o C⟩
 |.ms l o n,v,hr=>by simp only[Rep]at hr ⊢;obtain⟨A,a,y,j,e,K,q,r⟩:=hr;exact⟨A,a,y,j,e,by rw[h.κ l r,h.β l r,h.nl l r];omega,by rw[h.β l r];omega,dc r h.z⟩
 |.ag cs,v,hr=>by simp only[Rep]at hr ⊢;obtain⟨k,d,p⟩:=hr;exact⟨k,d,aG.mono h cs k p⟩
 |.pt l o,v,hr=>by simp only[Rep]at hr ⊢;exact⟨by rw[h.β l hr.2];grind,dc hr.2 h.z⟩
 |.ep cs,v,hr=>by simp only[Rep]at hr ⊢;obtain⟨b,o,d,p⟩:=hr;exact⟨b,o,d,aR.mono h b cs o p⟩
 |.mp l,v,hr=>by simp only[Rep]at hr ⊢;exact⟨by rw[h.β l hr.2];grind,dc hr.2 h.z⟩
 |.fn f cs,v,hr=>by simp only[Rep]at hr ⊢;obtain⟨k,d,p⟩:=hr;exact⟨k,d,aG.mono h cs k p⟩
 |.tu cs,v,hr=>by simp only[Rep]at hr ⊢;obtain⟨k,d,p⟩:=hr;exact⟨k,d,aG.mono h cs k p⟩
 |.qu t o n cs,v,hr=>by simp only[Rep]at hr ⊢;obtain⟨A,a,d,E,D,s,M,B,m⟩:=hr;refine⟨A,a,d,E,D,dc s h.z,by rw[h.κ t s];omega,by rw[h.κ t s,h.β t s];omega,fun Tv=>?_⟩;obtain⟨b,o,B,C⟩:=m Tv;exact⟨b,o,B,aR.mono h b cs o C⟩
 |.kap l n c,v,hr=>by simp only[Rep]at hr ⊢;obtain⟨A,y,j,e,K,q,r,L⟩:=hr;exact⟨A,y,j,e,by rw[h.κ l q];omega,dc q h.z,by rw[h.β l q,h.nl l q];omega,by rw[h.nl l q];omega⟩
 |.pe l cs,v,hr=>by simp only[Rep]at hr ⊢;obtain⟨y,j,e⟩:=hr;exact⟨by rw[h.β l j];omega,dc j h.z,by rw[h.β l j];exact aR.mono h (g.β l) cs 0 e⟩
theorem aG.mono{w e:World}{g b:G}(h:Ext w g e b):∀(cs:QQ) (d:List Value),aG w g cs d->aG e b cs d
 |[],_,hr=>by grind [aG]
 |c::cs,_,hr=>by simp only[aG]at hr ⊢;obtain⟨v,a,k,f,j⟩:=hr;exact⟨v,a,k,Rep.mono h c v f,aG.mono h cs a j⟩
theorem aR.mono{w d:World}{g a:G}(h:Ext w g d a)(b:Nat):∀(cs:QQ) (o:Nat),aR w g b cs o->aR d a b cs o
 |[],_,_=>by grind [aR]
 |c::cs,o,hr=>by simp only[aR]at hr ⊢;obtain⟨⟨v,e,f,j⟩,h4⟩:=hr;obtain⟨k,l⟩:=h.cell e j;exact⟨⟨v,k,Rep.mono h c v f,l⟩,aR.mono h b cs (o+1) h4⟩
end
inductive cT where
 |dead
 |own (e s n:Nat)
 |box (e s:Nat) (cs:List LV)
 |map (ag:Bool) (ks:List IntKind) (es:List (List Int×LV))
 |que (e n:Nat)
 |frz (ag:Bool) (ks:List IntKind) (es:List (List Int×LV))
structure St where
 z:Nat
 H:Nat->cT
def blk(g:G)(a:St)(l:Nat):Prop:=match a.H l with
 |.dead=>False
 |.own _ _ _=>g.nl l=false
 |.box _ _ _=>g.nl l=false
 |.map _ _ _=>g.nl l=false
 |.que _ _=>g.nl l=false
 |.frz _ _ _=>False
def fp:List IntKind->PP->List Value
 |k::ks,n::ns=>.int k n::fp ks ns
 |_,_=>[]
def cg(ag:Bool)(a:List IntKind)(b:PP):Value:=if ag then .agg (fp a b).toArray else(fp a b).headD undef
def Aq(w:World)(g:G)(l:Nat)(ag:Bool)(c:List IntKind)(b:List (PP×LV)):Prop:=
 g.nl l=false/\(∀ p∈b,p.1.length=c.length)/\∃(a:List MapEntry) (clock:Nat),w.heap[g.β l]?=some (.map a.toArray clock)/\a.map (·.key)=b.map (fun p=>cg ag c p.1)/\
  aG w g (b.map (·.2)) (a.map (·.val))/\g.φ (g.β l)=some 0/\(∀ x∈a,x.born<clock)/\(a.map (·.born)).Nodup
def FO(w:World)(g:G)(l e n:Nat):Prop:=
 g.nl l=false/\(∃ a:Array Value,w.heap[g.β l]?=some (.cells a e (0,0))/\a.size=g.κ l / qM+g.κ l % qM)/\g.φ (g.β l)=some (g.κ l / qM+n)/\n<=g.κ l % qM/\g.κ l % qM<=maxLen
def Kh(w:World)(g:G)(l:Nat)(ag:Bool)(c:List IntKind)(b:List (PP×LV)):Prop:=
 g.nl l=false/\l<g.z/\(∀ p∈b,p.1.length=c.length)/\∃(a:List MapEntry) (clock:Nat),w.heap[g.β l]?=some (.map a.toArray clock)/\a.map (·.key)=b.map (fun p=>cg ag c p.1)/\
  aG w g (b.map (·.2)) (a.map (·.val))/\g.φ (g.β l)=none/\(∀ x∈a,x.born<clock)/\(a.map (·.born)).Nodup
variable{ag:Bool}{b g:G}{c:List (List Int×LV)}{e:List IntKind}{l n:Nat}{a:St}{d w:World}
def Kh.keep{f:World}{d:G}(h:Kh w g l ag e c)(a:Ext w g f d):Kh f d l ag e c:=by obtain⟨s,b,k,j,clock,m,n,o,p,q⟩:=h;obtain⟨t,r⟩:=a.still _ (ig.1 m).1 p;exact⟨by rw[a.nl l b];omega,dc b a.z,k,j,clock,by rw[a.β l b,r];omega,n,aG.mono a _ _ o,by rw[a.β l b];omega,q⟩
@[simp] def iQ:cT->Bool
  |.frz _ _ _=>true
  |_=>false
def zR{o:cT}(h:iQ o=true):∃ ag b a,o=.frz ag b a:=by cases o<;>first|exact⟨_,_,_,rfl⟩|cases h
def It:List (Nat×List Value):=[(0,Lib.deBruijn64tab.map fun(n:Nat)=>.int .u8 n)]
def iV(w:World)(g:G):Prop:=∀ T∈It,∀(j:Nat) (v:Value),T.2[j]?=some v->w.cell? ⟨T.1,j,none⟩=some v/\g.φ T.1=none
def iV.keep{b:World}{a:G}(h:iV w g)(f:Ext w g b a):iV b a:=fun T e j v k=>by
 obtain⟨c,d⟩:=h T e j v k;obtain⟨l,m⟩:=f.still T.1 (pU c) d
 grind [World.cell?_of_block]
structure Aside(w:World)(g:G)(st:St):Prop where
 frz:∀ l ag ks es,st.H l=.frz ag ks es->Kh w g l ag ks es
 one:∀ l l',iQ (st.H l)=true->iQ (st.H l')=true->g.β l=g.β l'->l=l'
 glob:iV w g
def Aside.lt{w:World}{g:G}{st:St}(h:Aside w g st){l:Nat}(hl:iQ (st.H l)=true):l<g.z:=by obtain⟨ag,ks,es,e⟩:=zR hl;exact(h.frz l ag ks es e).2.1
theorem Aside.keep{w o:World}{g k:G}{n a:St}(h:Aside w g n)(d:Ext w g o k)(f:∀ l,iQ (a.H l)=true->a.H l=n.H l):Aside o k a:=by
 refine⟨fun l ag t r s=>?_,fun l j b c m=>?_,h.glob.keep d⟩
 .have e:=f l (by simp_all);rw[s]at e;exact(h.frz l ag t r e.symm).keep d
 .have p:=f l b;have q:=f j c;rw[p]at b;rw[q]at c;rw[d.β l (h.lt b),d.β j (h.lt c)]at m;exact h.one l j b c m
def wO(h:iV w g)(d:∀ l,a.H l=.dead):Aside w g a:=
 ⟨fun l ag e c b=>(by grind),fun l f b=>(by simp_all),h⟩
def iV.phi{a:G}(h:iV w g)(e:∀ b o v,w.cell? ⟨b,o,none⟩=some v->g.φ b=none->a.φ b=none):iV w a:=fun T c j v d=>by
 obtain⟨f,k⟩:=h T c j v d
 grind
structure Inv(w:World)(g:G)(st:St):Prop where
 z:g.z=st.z
 pos:0<st.z
 fresh:∀ l,st.z<=l->st.H l=.dead
 lt:∀ l,blk g st l->g.β l<w.heap.size
 inj:∀ l l',blk g st l->blk g st l'->g.β l=g.β l'->l=l'
 own:∀ l e s n,st.H l=.own e s n->n<=g.κ l/\g.κ l<=maxLen/\(g.nl l=true->g.κ l=0)/\(g.nl l=false->∃ o8:Array Value,w.heap[g.β l]?=some (.cells o8 e (0,0))/\o8.size=g.κ l*s/\g.φ (g.β l)=some (n*s))
 box:∀ l e s cs,st.H l=.box e s cs->g.κ l<=maxLen/\(g.nl l=true->g.κ l=0/\cs=[])/\(g.nl l=false->∃ o8:List Value,w.heap[g.β l]?=some (.cells o8.toArray e (0,0))/\o8.length=g.κ l*s/\cs.length<=o8.length/\aG w g cs (o8.take cs.length)/\g.φ (g.β l)=some 0)
 mp:∀ l ag ks es,st.H l=.map ag ks es->Aq w g l ag ks es
 qu:∀ l e n,st.H l=.que e n->FO w g l e n
 aside:Aside w g st
def Aq.keep{f:List IntKind}{e:List (PP×LV)}(h:Aq w g l ag f e)(a:Ext w g d b)(dS:l<g.z)(p:d.heap[g.β l]?=w.heap[g.β l]?)(c:b.φ (g.β l)=g.φ (g.β l)):Aq d b l ag f e:=by obtain⟨q,k,j,clock,r,m,n,s,o⟩:=h;refine⟨by rw[a.nl l dS];omega,k,j,clock,by rw[a.β l dS,p];omega,m,aG.mono a _ _ n,by rw[a.β l dS,c];omega,o⟩
def Aq.blk_lt{b:List IntKind}{a:List (PP×LV)}(h:Aq w g l ag b a):g.β l<w.heap.size:=by
 obtain⟨_,_,_,_,c,_⟩:=h
 grind
def Inv.map_lt(h:Inv w g a)(d:a.H l=.map ag e c):l<g.z:=by
 rw[h.z];rcases ec l a.z with b|b
 .omega
 .rw[h.fresh l b]at d;grind
def FO.keep{e:Nat}(h:FO w g l e n)(a:Ext w g d b)(dS:l<g.z)(f:d.heap[g.β l]?=w.heap[g.β l]?)(c:b.φ (g.β l)=g.φ (g.β l)):FO d b l e n:=by obtain⟨k,⟨j,m,o⟩,h4,h5⟩:=h;refine⟨by rw[a.nl l dS];omega,⟨j,by rw[a.β l dS,f];omega,by rw[a.κ l dS];omega⟩,by rw[a.β l dS,c,a.κ l dS];omega,by rw[a.κ l dS];omega⟩
def FO.blk_lt{e:Nat}(h:FO w g l e n):g.β l<w.heap.size:=by
 obtain⟨_,⟨_,a,_⟩,_⟩:=h
 grind
def Inv.que_lt(h:Inv w g a){e:Nat}(c:a.H l=.que e n):l<g.z:=by
 rw[h.z];rcases ec l a.z with b|b
 .omega
 .rw[h.fresh l b]at c;grind
def Inv.que_blk(h:Inv w g a){e:Nat}(b:a.H l=.que e n):blk g a l:=by unfold blk;rw[b];exact(h.qu l e n b).1
def Inv.map_blk(h:Inv w g a){d:List IntKind}{b:List (PP×LV)}(c:a.H l=.map ag d b):blk g a l:=by unfold blk;rw[c];exact(h.mp l ag d b c).1
abbrev ah:=Nat->LV
def de(a:ah)(i:Nat)(v:LV):ah:=fun j=>if j=i then v else a j
def eY(w:World)(g:G)(a:Act)(b:ah):Prop:=∀ i,Rep w g (b i) (a.tmps.getD i undef)
theorem eY.mono{w d:World}{g c:G}{a:Act}{b:ah}(h:eY w g a b)(e:Ext w g d c):eY d c a b:=
 fun i=>Rep.mono e _ _ (h i)
theorem eY.put{w:World}{g:G}{a:Act}{fr:ah}(h:eY w g a fr){d:Nat}(hd:d<a.tmps.size){v:Value}{lv:LV}(hv:Rep w g lv v):
 eY w g (a.put (some d) v) (de fr d lv):=by
 intro i;simp only[Act.put,de];by_cases hi:i=d
 .simp_all
 .rw[aa hi];have:=h i;rw[ul,oY,aa (fun e=>hi e.symm),<- ul];omega
theorem cL(a:Act)(d:Option Tmp)(v:Value):(a.put d v).tmps.size=a.tmps.size:=by cases d<;>simp[Act.put]
theorem put_defers(a:Act)(d:Option Tmp)(v:Value):(a.put d v).defers=a.defers:=by cases d<;>rfl
end Aw
end Go.Proofs.YtbgngpdonpeboaaGreatDoor
