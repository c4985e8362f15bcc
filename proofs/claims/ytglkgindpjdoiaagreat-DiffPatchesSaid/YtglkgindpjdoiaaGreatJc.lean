/- The library's sort: Len, nextPowerOfTwo, breakPatterns. -/
import Derived.Test.YtglkgindpjdoiaaGreatJb
import Derived.Test.YtglkgindpjdoiaaGreatAwTd
import Derived.Test.YtglkgindpjdoiaaGreatAwX
import Derived.Test.YtglkgindpjdoiaaGreatAwSet
import Derived.Test.YtglkgindpjdoiaaGreatAwFn
import Derived.Test.YtglkgindpjdoiaaGreatAwShp
namespace Go.Proofs.YtglkgindpjdoiaaGreat.Aw
open Go Go.RowKit Go.Proofs.YtglkgindpjdoiaaGreat.Pl
set_option linter.unusedSimpArgs false
set_option linter.unusedVariables false
abbrev uw (n:Int):LV:=.atom (.int .u64 n)
def lenTab (m:Nat):Nat:=if m=0 then 0 else Nat.log2 m+1
def blen (n:Nat):Nat:=if 256≤n then 8+lenTab (n / 256) else lenTab n
theorem wrap_u64 (n:Int) (h1:0≤n) (h2:n < 18446744073709551616):IntKind.u64.wrap n=n:=by
 simp [IntKind.wrap,IntKind.signed,IntKind.bits];omega
theorem wrap_u8 (n:Int) (h1:0≤n) (h2:n < 256):IntKind.u8.wrap n=n:=by
 simp [IntKind.wrap,IntKind.signed,IntKind.bits];omega
abbrev lenStr:ByteArray:={ data:=((List.append [0,1,2,2,3,3,3,3,4,4,4,4,4,4,4,4,5,5,5,5,5,5,5,5,5,5,5,5,5,5,5,5,6,6,6,6,6,6,6,6,6,6,6,6,6,6,6,6,6,6,6,6,6,6,6,6,6,6,6,6,6,6,6,6] [7,7,7,7,7,7,7,7,7,7,7,7,7,7,7,7,7,7,7,7,7,7,7,7,7,7,7,7,7,7,7,7,7,7,7,7,7,7,7,7,7,7,7,7,7,7,7,7,7,7,7,7,7,7,7,7,7,7,7,7,7,7,7,7]).append (List.append [8,8,8,8,8,8,8,8,8,8,8,8,8,8,8,8,8,8,8,8,8,8,8,8,8,8,8,8,8,8,8,8,8,8,8,8,8,8,8,8,8,8,8,8,8,8,8,8,8,8,8,8,8,8,8,8,8,8,8,8,8,8,8,8] [8,8,8,8,8,8,8,8,8,8,8,8,8,8,8,8,8,8,8,8,8,8,8,8,8,8,8,8,8,8,8,8,8,8,8,8,8,8,8,8,8,8,8,8,8,8,8,8,8,8,8,8,8,8,8,8,8,8,8,8,8,8,8,8])).toArray }
theorem lenStr_at:∀ m:Fin 256,((lenStr[m.val]?).isSome=true∧((lenStr[m.val]?).getD 0).toNat=lenTab m.val):=by decide +kernel
theorem lenTab_at:∀ m:Fin 256,lenTab m.val≤8∧(0 < m.val→m.val < 2 ^ lenTab m.val∧2 ^ lenTab m.val≤2 * m.val):=by decide +kernel
theorem blen_at (n:Nat) (hn:n < 65536):blen n≤16∧(0 < n→n < 2 ^ blen n∧2 ^ blen n≤2 * n):=by
 unfold blen
 by_cases h:256≤n
 ·rw [if_pos h]
  have h1:=lenTab_at ⟨n / 256,by omega⟩
  simp only at h1
  obtain ⟨h2,h3⟩:=h1.2 (by omega)
  refine ⟨by omega,fun _=>?_⟩
  rw [Nat.pow_add]
  generalize 2 ^ lenTab (n / 256)=e at *
  omega
 ·rw [if_neg h]
  have h1:=lenTab_at ⟨n,by omega⟩
  simp only at h1
  exact ⟨by omega,h1.2⟩
theorem Len64 (n:Nat) (st:St) (hn:n < 65536):ACalls Tryz.prog 155 [uw n] st fun r st'=>r=i (blen n)∧st'=st:=by
 refine qO tabOk Tryz.func155 rfl rfl Tryz.ntmps155 (rs:=[.tmp 2]) rfl (by simp) ?_
 have h1:¬ (4294967296:Int)≤(n:Int):=by omega
 have h2:¬ (65536:Int)≤(n:Int):=by omega
 have hs:∀ m,m < 256→(lenStr[m]?).isSome=true∧((lenStr[m]?).getD 0).toNat=lenTab m:=fun m h=>lenStr_at ⟨m,h⟩
 generalize hq:({ data:=((List.append [0,1,2,2,3,3,3,3,4,4,4,4,4,4,4,4,5,5,5,5,5,5,5,5,5,5,5,5,5,5,5,5,6,6,6,6,6,6,6,6,6,6,6,6,6,6,6,6,6,6,6,6,6,6,6,6,6,6,6,6,6,6,6,6] [7,7,7,7,7,7,7,7,7,7,7,7,7,7,7,7,7,7,7,7,7,7,7,7,7,7,7,7,7,7,7,7,7,7,7,7,7,7,7,7,7,7,7,7,7,7,7,7,7,7,7,7,7,7,7,7,7,7,7,7,7,7,7,7]).append (List.append [8,8,8,8,8,8,8,8,8,8,8,8,8,8,8,8,8,8,8,8,8,8,8,8,8,8,8,8,8,8,8,8,8,8,8,8,8,8,8,8,8,8,8,8,8,8,8,8,8,8,8,8,8,8,8,8,8,8,8,8,8,8,8,8] [8,8,8,8,8,8,8,8,8,8,8,8,8,8,8,8,8,8,8,8,8,8,8,8,8,8,8,8,8,8,8,8,8,8,8,8,8,8,8,8,8,8,8,8,8,8,8,8,8,8,8,8,8,8,8,8,8,8,8,8,8,8,8,8])).toArray }:ByteArray)=s
 rw [show lenStr=s from hq] at hs
 clear hq
 by_cases h3:(256:Int)≤(n:Int)
 ·obtain ⟨m,hm⟩:∃ m,m=n / 256:=⟨_,rfl⟩
  have w1:(n:Int).fdiv (2 ^ min 8 IntKind.u64.bits)=(m:Int):=by
   show (n:Int).fdiv 256=(m:Int)
   rw [Int.fdiv_eq_ediv_of_nonneg _ (by omega)];omega
  have w2:=wrap_u8 m (by omega) (by omega)
  have hb:blen n=8+lenTab m:=by unfold blen;rw [if_pos (by omega),hm]
  have h4:lenTab m≤8:=(lenTab_at ⟨m,by omega⟩).1
  have hm2:=hs m (by omega)
  have hz:m < s.size:=by simpa using hm2.1
  have hv:=hm2.2
  rw [hb]
  generalize lenTab m=e at *
  have w3:IntKind.i64.wrap (8+(e:Int))=((8+e:Nat):Int):=by rw [wrap_i64 _ (by omega) (by omega)];omega
  have w4:IntKind.i64.wrap (e:Int)=(e:Int):=by rw [wrap_i64 _ (by omega) (by omega)]
  have w5:IntKind.i64.wrap (8:Int)=8:=rfl
  simp [hz] at hv
  (repeat' (first | refine qS ?_ | (refine qK ?_;simp only [ak,reduceIte]) | (refine qR ?_;simp only [ak,reduceIte];simp [h1,h2,h3,gshr,w1,w2,hz,hv,w3,w4,w5]) | (refine qC ?_;simp [h1,h2,h3,gshr,w1,w2,hz,hv,w3,w4,w5]) | (refine w_e [] ?_;intro J hJ;simp only [];simp [h1,h2,h3,gshr,w1,w2,hz,hv,w3,w4,w5];(refine hJ _ _ ?_;clear hJ J;simp only [ak,reduceIte]))))
 ·have w2:=wrap_u8 n (by omega) (by omega)
  have hb:blen n=lenTab n:=by unfold blen;rw [if_neg (by omega)]
  have h4:lenTab n≤8:=(lenTab_at ⟨n,by omega⟩).1
  have hm2:=hs n (by omega)
  have hz:n < s.size:=by simpa using hm2.1
  have hv:=hm2.2
  rw [hb]
  generalize lenTab n=e at *
  have w4:IntKind.i64.wrap (e:Int)=(e:Int):=by rw [wrap_i64 _ (by omega) (by omega)]
  simp [hz] at hv
  (repeat' (first | refine qS ?_ | (refine qK ?_;simp only [ak,reduceIte]) | (refine qR ?_;simp only [ak,reduceIte];simp [h1,h2,h3,w2,hz,hv,w4]) | (refine qC ?_;simp [h1,h2,h3,w2,hz,hv,w4]) | (refine w_e [] ?_;intro J hJ;simp only [];simp [h1,h2,h3,w2,hz,hv,w4];(refine hJ _ _ ?_;clear hJ J;simp only [ak,reduceIte]))))
theorem Len (n:Nat) (st:St) (hn:n < 65536):ACalls Tryz.prog 136 [uw n] st fun r st'=>r=i (blen n)∧st'=st:=by
 refine qO tabOk Tryz.func136 rfl rfl Tryz.ntmps136 (rs:=[.tmp 2]) rfl (by simp) ?_
 (repeat' (first | refine qS ?_ | (refine qK ?_;simp only [ak,reduceIte]) | (refine qC ?_;simp []) | (refine w_e [] ?_;intro J hJ;simp only [];simp [];(try (refine hJ _ _ ?_;clear hJ J;simp only [ak,reduceIte])))))
 refine qF (Len64 n _ hn) ?_;rintro r st' ⟨rfl,rfl⟩
 (repeat' (first | (refine qR ?_;simp only [ak,reduceIte];simp []) | (refine e_go ?_;simp [];(refine hJ _ _ ?_;clear hJ J;simp only [ak,reduceIte]))))
theorem nextPowerOfTwo (n:Nat) (st:St) (hn:n < 65536):ACalls Tryz.prog 166 [i n] st fun r st'=>r=uw ((2 ^ blen n:Nat):Int)∧st'=st:=by
 have h1:=(blen_at n hn).1
 have w1:IntKind.u64.wrap (n:Int)=(n:Int):=wrap_u64 _ (by omega) (by omega)
 have w2:gshl .u64 1 (blen n)=((2 ^ blen n:Nat):Int):=by
  unfold gshl
  have h2:(2:Nat) ^ blen n≤2 ^ 16:=Nat.pow_le_pow_right (by omega) h1
  have h3:min ((blen n:Int).toNat) IntKind.u64.bits=blen n:=by simp [IntKind.bits];omega
  rw [h3,Int.one_mul]
  rw [show ((2:Int) ^ blen n)=((2 ^ blen n:Nat):Int) by simp]
  generalize (2:Nat) ^ blen n=z at *
  exact wrap_u64 _ (by omega) (by omega)
 refine qO tabOk Tryz.func166 rfl rfl Tryz.ntmps166 (rs:=[.tmp 2]) rfl (by simp) ?_
 (repeat' (first | refine qS ?_ | (refine w_e [] ?_;intro J hJ;simp only [];simp [w1];(try (refine hJ _ _ ?_;clear hJ J;simp only [ak,reduceIte])))))
 refine qF (Len n _ hn) ?_;rintro r st' ⟨rfl,rfl⟩
 generalize ((2 ^ blen n:Nat):Int)=e2 at *
 (repeat' (first | (refine qR ?_;simp only [ak,reduceIte];simp [w2]) | (refine e_go ?_;simp [w2];(refine hJ _ _ ?_;clear hJ J;simp only [ak,reduceIte]))))
abbrev xx (st:St) (p:Nat) (s:Int):St:=st.set p (.box 155 1 [uw s])
theorem xNext (p:Nat) (s:Int) (st:St) (hp:st.H p=.box 155 1 [uw s]):ACalls Tryz.prog 167 [.pt p 0] st fun r st'=>∃ s',r=uw s'∧st'=xx st p s':=by
 refine qO tabOk Tryz.func167 rfl rfl Tryz.ntmps167 (rs:=[.tmp 2]) rfl (by simp) ?_
 (repeat (refine qS ?_));(refine w_e [] ?_;intro J hJ;simp only [];simp [];(refine hJ _ _ ?_;clear hJ J;simp only [ak,reduceIte]))
 (repeat (refine qS ?_));(refine w_s [] [p] [(0,true),(1,true),(2,true),(3,true),(4,true),(5,true),(6,true),(7,true),(8,true),(9,false)] ?_;intro J hJ;simp [hp];(refine hJ _ _ ?_;clear hJ J;simp only [ak,reduceIte]))
 generalize gxor _ _ _=s1
 (repeat (refine qS ?_));(refine w_s [] [p] [(0,true),(1,true),(2,true),(3,true),(4,true),(5,true),(6,true),(7,true),(8,true),(9,false)] ?_;intro J hJ;simp [hp];(refine hJ _ _ ?_;clear hJ J;simp only [ak,reduceIte]))
 generalize gxor _ _ _=s2
 (repeat (refine qS ?_));(refine w_s [] [p] [(0,true),(1,true),(2,true),(3,true),(4,true),(5,true),(6,true),(7,true),(8,true),(9,false)] ?_;intro J hJ;simp [hp];(refine hJ _ _ ?_;clear hJ J;simp only [ak,reduceIte]))
 generalize gxor _ _ _=s3
 (repeat' (first | refine qS ?_ | (refine qR ?_;simp only [ak,reduceIte];simp []) | (refine w_e [] ?_;intro J hJ;simp only [];simp [];(refine hJ _ _ ?_;clear hJ J;simp only [ak,reduceIte]))))
 rw [St.set_set,St.set_set]
theorem gand_lt (s:Int) (m:Nat) (h0:0 < m) (hm:m≤131072):∃ o:Nat,o < m∧gand .u64 s (((m - 1:Nat)):Int)=(o:Int):=by
 unfold gand
 generalize hx:BitVec.ofInt IntKind.u64.bits s=x
 have h1:(BitVec.ofInt IntKind.u64.bits ((m - 1:Nat):Int)).toNat=m - 1:=by
  rw [BitVec.ofInt_natCast,BitVec.toNat_ofNat]
  show (m - 1) % 2 ^ 64=m - 1
  exact Nat.mod_eq_of_lt (by omega)
 refine ⟨(x &&& BitVec.ofInt IntKind.u64.bits ((m - 1:Nat):Int)).toNat,?_,?_⟩
 ·have h2:(x &&& BitVec.ofInt IntKind.u64.bits ((m - 1:Nat):Int)).toNat≤(BitVec.ofInt IntKind.u64.bits ((m - 1:Nat):Int)).toNat:=by
   rw [BitVec.toNat_and];exact Nat.and_le_right
  omega
 ·have h2:(x &&& BitVec.ofInt IntKind.u64.bits ((m - 1:Nat):Int)).toNat≤(BitVec.ofInt IntKind.u64.bits ((m - 1:Nat):Int)).toNat:=by
   rw [BitVec.toNat_and];exact Nat.and_le_right
  exact wrap_u64 _ (by omega) (by omega)
def OffS (q:Nat) (st st':St):Prop:=st.next≤st'.next∧∀ l,l≠q→l < st.next→st'.H l=st.H l
theorem OffS.refl (q:Nat) (st:St):OffS q st st:=⟨Nat.le_refl _,fun _ _ _=>rfl⟩
theorem OffS.trans {q:Nat} {a b c:St} (h:OffS q a b) (k:OffS q b c):OffS q a c:=⟨Nat.le_trans h.1 k.1,fun l hl hn=>(k.2 l hl (Nat.lt_of_lt_of_le hn h.1)).trans (h.2 l hl hn)⟩
theorem OffS.keeps {q:Nat} {a b c:St} (h:OffS q a b) (k:Keeps b c):OffS q a c:=⟨Nat.le_trans h.1 k.next,fun l hl hn=>(k.H l (Nat.lt_of_lt_of_le hn h.1)).trans (h.2 l hl hn)⟩
theorem OffS.set {q:Nat} {a b:St} (h:OffS q a b) (o:LObj):OffS q a (b.set q o):=⟨h.1,fun l hl hn=>by rw [set_H,if_neg hl];exact h.2 l hl hn⟩
theorem OffS.set' {q p:Nat} {a b:St} (h:OffS q a b) (hp:a.next≤p) (o:LObj):OffS q a (b.set p o):=⟨h.1,fun l hl hn=>by rw [set_H,if_neg (by omega)];exact h.2 l hl hn⟩
def BrkI (q p a b n m k:Nat) (l:List Int) (st:St) (fr:Frm) (st2:St):Prop:=fr 0=.ms q 0 l.length∧fr 1=i a∧fr 6=i n∧fr 7=.pt p 0∧fr 8=uw m∧fr 9=i k∧p < st2.next∧OffS q st st2∧(∃ s,st2.H p=.box 155 1 [uw s])∧∃ c,st2.H q=.box 29 1 (us c)∧Pm a b l c
def BrkJ (q p a b n m k:Nat) (l:List Int) (st:St) (fr:Frm) (st2:St):Prop:=BrkI q p a b n m k l st fr st2∧∃ o:Nat,o < n∧fr 10=i o
set_option maxHeartbeats 1000000 in
theorem breakPatterns (l:List Int) (q a b:Nat) (st:St) (hl:l.length < 65536) (hab:a+8≤b) (hb:b≤l.length) (hqn:q < st.next) (hH:st.H q=.box 29 1 (us l)):
 ACalls Tryz.prog 148 [.ms q 0 l.length,i a,i b] st fun r st'=>∃ c,st'.H q=.box 29 1 (us c)∧Pm a b l c∧OffS q st st':=by
 obtain ⟨n,hn⟩:∃ n:Nat,n=b - a:=⟨_,rfl⟩
 obtain ⟨n4,hn4⟩:∃ m:Nat,m=n / 4:=⟨_,rfl⟩
 obtain ⟨k0,hk0⟩:∃ m:Nat,m=a+n4 * 2:=⟨_,rfl⟩
 have w1:IntKind.i64.wrap ((b:Int) - (a:Int))=(n:Int):=by rw [wrap_i64 _ (by omega) (by omega)];omega
 have w2:IntKind.i64.wrap ((n:Int) / 4)=(n4:Int):=by
  rw [show (n:Int) / 4=((n / 4:Nat):Int) from rfl,← hn4]
  exact wrap_i64 _ (by omega) (by omega)
 have w4:IntKind.i64.wrap ((n4:Int) * 2)=((n4 * 2:Nat):Int):=by rw [wrap_i64 _ (by omega) (by omega)];omega
 have w7:IntKind.i64.wrap ((a:Int)+((n4 * 2:Nat):Int))=(k0:Int):=by rw [wrap_i64 _ (by omega) (by omega)];omega
 have w8:=nat_sub_one k0 (by omega) (by omega)
 obtain ⟨k1,hk1⟩:∃ m:Nat,m=k0+1:=⟨_,rfl⟩
 have w9:IntKind.i64.wrap ((k0:Int)+1)=(k1:Int):=by rw [qN k0 (by omega),hk1]
 have w10:IntKind.u64.wrap (n:Int)=(n:Int):=wrap_u64 _ (by omega) (by omega)
 have h8:(8:Int)≤(n:Int):=by omega
 have hbl:=(blen_at n (by omega)).2 (by omega)
 obtain ⟨m,hm⟩:∃ m:Nat,m=2 ^ blen n:=⟨_,rfl⟩
 rw [← hm] at hbl
 have w11:IntKind.u64.wrap ((m:Int) - 1)=((m - 1:Nat):Int):=by rw [wrap_u64 _ (by omega) (by omega)];omega
 generalize ((n4 * 2:Nat):Int)=e2 at *
 refine qO tabOk Tryz.func148 rfl rfl Tryz.ntmps148 (rs:=[]) rfl (by simp) ?_
 (repeat' (first | refine qS ?_ | (refine w_e [] ?_;intro J hJ;simp only [];simp [w1];(refine hJ _ _ ?_;clear hJ J;simp only [ak,reduceIte]))))
 refine qC ?_;simp [h8]
 (repeat' (first | refine qS ?_ | (refine w_e [] ?_;intro J hJ;simp only [];simp [w10,w1];(try (refine hJ _ _ ?_;clear hJ J;simp only [ak,reduceIte])))))
 refine qF (nextPowerOfTwo n _ (by omega)) ?_;rintro r st' ⟨rfl,rfl⟩
 rw [← hm]
 (repeat' (first | refine qS ?_ | refine qB ?_ | ((first | (refine w_e [] ?_;intro J hJ;simp only []) | (refine e_go ?_));simp [w2,w4,w7,w8];(refine hJ _ _ ?_;clear hJ J;simp only [ak,reduceIte]))))
 refine qL (fun z fr st2=>∃ k:Nat,k0≤k+1∧k≤k0+2∧z=k0+2 - k∧BrkI q st.next a b n m k l st fr st2) 3 ?_ ?_
 ·refine ⟨k0 - 1,by omega,by omega,by omega,?_⟩
  unfold BrkI
  have hne:¬ q=st.next:=by omega
  refine ⟨by simp,by simp,by simp,by simp,by simp,by simp,by simp,?_,⟨n,by simp⟩,l,by simp [hne,hH],.refl⟩
  exact ((OffS.refl q st).keeps (Keeps.new _ _)).set' (Nat.le_refl _) _
 rintro z fr st2 ⟨k,hkl,hku,rfl,f0,f1,f6,f7,f8,f9,hpn,hof,⟨s,hs⟩,c,hcq,hpm⟩ JJ hJJ
 have hcl:=hpm.len
 by_cases hlt:(k:Int)≤(k1:Int)
 rotate_left
 ·clear hJJ
  (repeat' (first | refine qS ?_ | (refine qX ?_;simp only [ak,reduceIte]) | (refine qC ?_;simp [f1,f6,f9,w2,w4,w7,w9,hlt]) | (refine w_e [] ?_;intro J hJ;simp only [];simp [f1,f6,f9,w2,w4,w7,w9,hlt];(refine hJ _ _ ?_;clear hJ J;simp only [ak,reduceIte]))))
  exact ⟨trivial,c,hcq,hpm,hof⟩
 (repeat (refine qS ?_));(refine w_e [] ?_;intro J hJ;simp only [];simp [f1,f6,f9,w2,w4,w7,w9,hlt];(refine hJ _ _ ?_;clear hJ J;simp only [ak,reduceIte]))
 refine qC ?_;simp [hlt]
 refine qK ?_;simp only [ak,reduceIte]
 refine qS ?_
 refine qB ?_
 refine qS ?_
 (refine w_e [] ?_;intro J hJ;simp only [];simp [f7])
 refine qF (xNext st.next s _ hs) ?_;rintro r st' ⟨s1,rfl,rfl⟩
 obtain ⟨o,ho,hgo⟩:=gand_lt s1 m (by omega) (by omega)
 have w12:IntKind.i64.wrap (o:Int)=(o:Int):=wrap_i64 _ (by omega) (by omega)
 (refine e_go ?_;simp [f8,w11,hgo,w12];(refine hJ _ _ ?_;clear hJ J;simp only [ak,reduceIte]))
 refine qS ?_
 refine awp_cut1 (BrkJ q st.next a b n m k l st) ?_ ?_
 ·have hqne:¬ q=st.next:=by omega
  have hI:∀ fr2:Frm,fr2 0=fr 0→fr2 1=fr 1→fr2 6=fr 6→fr2 7=fr 7→fr2 8=fr 8→fr2 9=fr 9→BrkI q st.next a b n m k l st fr2 (xx st2 st.next s1):=by
   intro fr2 g0 g1 g6 g7 g8 g9
   exact ⟨by rw [g0,f0],by rw [g1,f1],by rw [g6,f6],by rw [g7,f7],by rw [g8,f8],by rw [g9,f9],by simpa using hpn,hof.set' (Nat.le_refl _) _,⟨s1,by simp⟩,c,by simp [hqne,hcq],hpm⟩
  by_cases hge:(n:Int)≤(o:Int)
  ·have w13:IntKind.i64.wrap ((o:Int) - (n:Int))=((o - n:Nat):Int):=by rw [wrap_i64 _ (by omega) (by omega)];omega
   (repeat' (first | refine qS ?_ | (refine qC ?_;simp [f6,hge,w13]) | (refine w_e [] ?_;intro J hJ;simp only [];simp [f6,hge,w13];(refine hJ _ _ ?_;clear hJ J;simp only [ak,reduceIte]))))
   refine ⟨by trivial,?_⟩
   exact ⟨hI _ (by simp) (by simp) (by simp) (by simp) (by simp) (by simp),o - n,by omega,by simp⟩
  ·(repeat' (first | refine qS ?_ | (refine qK ?_;simp only [ak,reduceIte]) | (refine qC ?_;simp [f6,hge]) | (refine w_e [] ?_;intro J hJ;simp only [];simp [f6,hge];(refine hJ _ _ ?_;clear hJ J;simp only [ak,reduceIte]))))
   refine ⟨by trivial,?_⟩
   exact ⟨hI _ (by simp) (by simp) (by simp) (by simp) (by simp) (by simp),o,by omega,by simp⟩
 clear f0 f1 f6 f7 f8 f9 hpn hof hs hcq hpm hcl hgo w12 ho o s s1 c st2 fr
 rintro fr st2 ⟨⟨f0,f1,f6,f7,f8,f9,hpn,hof,⟨s,hs⟩,c,hcq,hpm⟩,o,ho,f10⟩
 have hcl:=hpm.len
 obtain ⟨x,hx⟩:∃ x:Nat,x=a+o:=⟨_,rfl⟩
 have w12:IntKind.i64.wrap ((a:Int)+(o:Int))=(x:Int):=by rw [wrap_i64 _ (by omega) (by omega)];omega
 have w13:=qN k (by omega)
 have hd1:=qG c k (by omega)
 have hd2:=qG c x (by omega)
 have hl3:k < l.length:=by omega
 have hl4:x < l.length:=by omega
 have hsw:=fun v y=>bx_sw' st2 q c k x (x:=v) (y:=y) (by omega) (by omega)
 have hpm2:=hpm.step k x (by omega) (by omega) (by omega) (by omega) (by omega)
 generalize hv:c.getD k 0=v at *
 generalize hy:c.getD x 0=y at *
 have hsw':=hsw v y rfl rfl
 (refine w_s [] [q] [(0,true),(1,true),(2,true),(3,true),(4,true),(5,true),(6,true),(7,true),(8,true),(9,true),(10,true),(11,true),(12,true),(13,true),(14,true),(15,true),(16,true),(17,false),(18,true),(19,false)] ?_;intro J hJ;simp [f0,f1,f9,f10,w12,hl3,hl4,hcl,hcq,hd1,hd2];(repeat refine ca ?_);(refine hJ _ _ ?_;clear hJ J;simp only [ak,reduceIte]))
 (repeat' (refine w_e [] ?_;intro J hJ;simp only [];simp [f9,w13];(refine hJ _ _ ?_;clear hJ J;simp only [ak,reduceIte])))
 have hqne:¬ st.next=q:=by omega
 rw [hsw']
 exact hJJ (k0+2 - (k+1)) _ _ (by omega) ⟨k+1,by omega,by omega,rfl,by simp [f0],by simp [f1],by simp [f6],by simp [f7],by simp [f8],by simp,by simpa using hpn,hof.set _,⟨s,by simp [hqne,hs]⟩,_,by simp,hpm2⟩
theorem Srt.out {a m:Nat} {c d:List Int} (h:Srt a m c) (e:∀ j,a≤j→j < m→d.getD j 0=c.getD j 0):Srt a m d:=by
 intro p q h1 h2 h3
 rw [e p h1 (by omega),e q (by omega) h3];exact h p q h1 h2 h3
theorem _root_.Go.Proofs.YtglkgindpjdoiaaGreat.Pl.PartedAt.pmL {c d:List Int} {a m b:Nat} (h:PartedAt c a m b) (k:Pm a m c d):PartedAt d a m b:=by
 unfold PartedAt at h ⊢
 have e:d.getD m 0=c.getD m 0:=k.out m (by omega)
 rw [e]
 refine ⟨fun p h1 h2=>k.all (fun v=>decide (v < c.getD m 0)=true) h.1 p h1 h2,fun p h1 h2=>?_⟩
 rw [k.out p (by omega)];exact h.2 p h1 h2
theorem _root_.Go.Proofs.YtglkgindpjdoiaaGreat.Pl.PartedAt.pmR {c d:List Int} {a m b:Nat} (h:PartedAt c a m b) (k:Pm (m+1) b c d):PartedAt d a m b:=by
 unfold PartedAt at h ⊢
 have e:d.getD m 0=c.getD m 0:=k.out m (by omega)
 rw [e]
 refine ⟨fun p h1 h2=>?_,fun p h1 h2=>k.all (fun v=>decide (v < c.getD m 0)=false) (fun j g1 g2=>h.2 j (by omega) g2) p (by omega) h2⟩
 rw [k.out p (by omega)];exact h.1 p h1 h2
theorem _root_.Go.Proofs.YtglkgindpjdoiaaGreat.Pl.PartedAt.glue {d:List Int} {a m b:Nat} (h:PartedAt d a m b) (h1:Srt a m d) (h2:Srt (m+1) b d):Srt a b d:=by
 refine srt_glue h1 h2 (fun p g1 g2=>?_) fun q g1 g2=>?_
 ·have:=h.1 p g1 g2;simp only [decide_eq_true_eq] at this;omega
 ·have:=h.2 q g1 g2;simp only [decide_eq_false_iff_not] at this;omega
theorem _root_.Go.Proofs.YtglkgindpjdoiaaGreat.Pl.PartedAt.aheadR {d:List Int} {a m b:Nat} (h:PartedAt d a m b):Ahead d (m+1) b:=by
 intro _ j g1 g2
 have:=h.2 j (by omega) g2;simp only [decide_eq_false_iff_not] at this
 rw [Nat.add_sub_cancel];omega
theorem Ahead.less {d:List Int} {a m b:Nat} (h:Ahead d a b) (hm:m≤b):Ahead d a m:=fun h0 j g1 g2=>h h0 j g1 (by omega)
theorem eq_glue {c d:List Int} {a m b:Nat} {x:Int} (h:PartedEq c a m b x) (hlow:∀ j,a≤j→j < m→x≤c.getD j 0) (k:Pm m b c d) (hs:Srt m b d):Srt a b d:=by
 intro p q h1 h2 h3
 by_cases hq:q < m
 ·rw [k.out p (by omega),k.out q (by omega)]
  have:=h.1 p h1 (by omega);have:=hlow q (by omega) hq;omega
 ·by_cases hp:p < m
  ·rw [k.out p (by omega)]
   have g:=h.1 p h1 hp
   have:x < d.getD q 0:=k.all (fun v=>x < v) h.2 q (by omega) h3
   omega
  ·exact hs p q (by omega) h2 h3
def Fin9 (a b a' b':Nat) (c:List Int):Prop:=∀ d,Pm a' b' c d→Srt a' b' d→Srt a b d
theorem Fin9.pm {a b a' b':Nat} {c d:List Int} (h:Fin9 a b a' b' c) (k:Pm a' b' c d):Fin9 a b a' b' d:=fun e h1 h2=>h e (k.trans h1) h2
theorem awp_cutR {P:Program} {N:Nat} {Q:AQ} {k:List AItem} {fr:Frm} {st:St} {x y:Code} (I:Frm→St→Prop) (h1:AWp P N x (AK P N (fun e f s=>(e=.normal∧I f s)∨(e=.ret∧AK P N Q k .ret f s)) []) fr st) (h2:∀ fr st,I fr st→AWp P N y (AK P N Q k) fr st):
 AWp P N x (AK P N Q (.code y::k)) fr st:=by
 refine awp_mono h1 ?_
 rintro e fr' st' (⟨rfl,hI⟩ | ⟨rfl,hI⟩)
 ·rw [ak_code]
  exact h2 _ _ hI
 ·rw [ak_code_ret]
  exact hI
theorem awp_cutX {P:Program} {N:Nat} {Q:AQ} {k:List AItem} {fr:Frm} {st:St} {x y:Code} (I:Frm→St→Prop) (h1:AWp P N x (AK P N (fun e f s=>(e=.normal∧I f s)∨(e≠.normal∧AK P N Q k e f s)) []) fr st) (h2:∀ fr st,I fr st→AWp P N y (AK P N Q k) fr st):
 AWp P N x (AK P N Q (.code y::k)) fr st:=by
 refine awp_mono h1 ?_
 rintro e fr' st' (⟨rfl,hI⟩ | ⟨hne,hI⟩)
 ·rw [ak_code]
  exact h2 _ _ hI
 ·cases e<;>first | exact absurd rfl hne | exact hI
def PdI (q:Nat) (l:List Int) (st:St) (a b a' b':Nat) (wb wp:Bool) (lim n:Nat) (fr:Frm) (st2:St):Prop:=
 fr 0=.ms q 0 l.length∧fr 1=i a'∧fr 2=i b'∧fr 3=i lim∧fr 8=bb wb∧fr 9=bb wp∧fr 10=i n∧lim < 1000000∧q < st2.next∧OffS q st st2∧∃ c,st2.H q=.box 29 1 (us c)∧Pm a b l c∧Ahead c a' b'∧Fin9 a b a' b' c
theorem PdI.mk {q:Nat} {l:List Int} {st:St} {a b a' b':Nat} {wb wp:Bool} {lim n:Nat} {fr:Frm} {st2:St} {c:List Int} (f0:fr 0=.ms q 0 l.length) (f1:fr 1=i a') (f2:fr 2=i b') (f3:fr 3=i lim) (f8:fr 8=bb wb) (f9:fr 9=bb wp) (f10:fr 10=i n) (hlm:lim < 1000000) (hqn:q < st2.next) (ho:OffS q st st2) (hc:st2.H q=.box 29 1 (us c)) (hp:Pm a b l c) (ha:Ahead c a' b') (hf:Fin9 a b a' b' c):PdI q l st a b a' b' wb wp lim n fr st2:=
 ⟨f0,f1,f2,f3,f8,f9,f10,hlm,hqn,ho,c,hc,hp,ha,hf⟩
def PdJ (q:Nat) (l:List Int) (st:St) (a b a' b':Nat) (wb wp:Bool) (n:Nat) (fr:Frm) (st2:St):Prop:=∃ lim,PdI q l st a b a' b' wb wp lim n fr st2
def PdK (q:Nat) (l:List Int) (st:St) (a b a' b':Nat) (wb wp:Bool) (n:Nat) (fr:Frm) (st2:St):Prop:=∃ lim,PdI q l st a b a' b' wb wp lim n fr st2∧∃ (pv:Nat) (h:Int),a'≤pv∧pv < b'∧fr 11=i pv∧fr 12=i h
set_option maxHeartbeats 4000000 in
theorem pdqsort_upto (Z:Nat):∀ (l:List Int) (q a b lim:Nat) (st:St),l.length < 65536→a≤b→b≤l.length→b - a < Z→Ahead l a b→lim < 1000000→q < st.next→st.H q=.box 29 1 (us l)→
 ACalls Tryz.prog 135 [.ms q 0 l.length,i a,i b,i lim] st fun r st'=>∃ c,st'.H q=.box 29 1 (us c)∧Pm a b l c∧Srt a b c∧OffS q st st':=by
 induction Z with
 | zero=>intro l q a b lim st _ _ _ h;omega
 | succ Z ih=>
 intro l q a b lim st hl hab hb hZ hah hlim hqn hH
 have hsm:small l:=by unfold small;omega
 refine qO tabOk Tryz.func135 rfl rfl Tryz.ntmps135 (rs:=[]) rfl (by simp) ?_
 (repeat' (first | refine qS ?_ | refine qB ?_ | (refine w_e [] ?_;intro J hJ;simp only [];simp [];(refine hJ _ _ ?_;clear hJ J;simp only [ak,reduceIte]))))
 refine qL (fun z fr st2=>∃ (a' b' lim:Nat) (wb wp:Bool) (n:LV),a≤a'∧a'≤b'∧b'≤b∧z=b' - a'∧PdI q l st a b a' b' wb wp lim 0 (upd fr 10 (i (0:Nat))) st2) (b - a) ?_ ?_
 ·refine ⟨a,b,lim,true,true,.nil,by omega,by omega,by omega,rfl,?_⟩
  exact PdI.mk (by simp) (by simp) (by simp) (by simp) (by simp) (by simp) (by simp) hlim hqn (.refl _ _) hH .refl hah fun d h1 h2=>h2
 rintro z fr st2 ⟨a',b',lim,wb,wp,-,ha1,ha2,hb2,rfl,f0,f1,f2,f3,f8,f9,-,hlm,hqn2,hof,c,hc,hpm,hah2,hfin⟩ JJ hJJ
 rw [upd_at,if_neg (by omega)] at f0 f1 f2 f3 f8 f9
 have hcl:=hpm.len
 have hsc:small c:=by unfold small;omega
 obtain ⟨n,hn⟩:∃ n:Nat,n=b' - a':=⟨_,rfl⟩
 have w1:IntKind.i64.wrap ((b':Int) - (a':Int))=(n:Int):=by rw [wrap_i64 _ (by omega) (by omega)];omega
 refine qB ?_
 (repeat' (first | refine qS ?_ | (refine w_e [] ?_;intro J hJ;simp only [];simp [f1,f2,w1];(refine hJ _ _ ?_;clear hJ J;simp only [ak,reduceIte]))))
 by_cases hn12:(n:Int)≤12
 ·clear hJJ
  refine qC ?_;simp [hn12]
  (repeat' (first | refine qS ?_ | (refine w_e [] ?_;intro J hJ;simp only [];simp [f0,f1,f2])))
  refine qE (insertionSort c q a' b' st2 hsc (by omega) (by omega) hc) (by simp [f0,f1,f2,hcl]) ?_;rintro r st' ⟨d,rfl,k1,k2⟩
  (repeat' (first | (refine qR ?_;simp only [ak,reduceIte];simp []) | (refine e_go ?_;simp [];(refine hJ _ _ ?_;clear hJ J;simp only [ak,reduceIte]))))
  exact ⟨d,rfl,hpm.trans (k1.wide (by omega) (by omega) (by omega)),hfin d k1 k2,hof.set _⟩
 refine qC ?_;simp [hn12]
 (repeat' (first | refine qS ?_ | (refine qK ?_;simp only [ak,reduceIte]) | (refine w_e [] ?_;intro J hJ;simp only [];simp [f3];(refine hJ _ _ ?_;clear hJ J;simp only [ak,reduceIte]))))
 by_cases hl0:lim=0
 ·clear hJJ
  refine qC ?_;simp [hl0]
  (repeat' (first | refine qS ?_ | (refine w_e [] ?_;intro J hJ;simp only [];simp [f0,f1,f2])))
  refine qE (heapSort c q a' b' st2 hsc (by omega) (by omega) hc) (by simp [f0,f1,f2,hcl]) ?_;rintro r st' ⟨d,rfl,k1,k2⟩
  (repeat' (first | (refine qR ?_;simp only [ak,reduceIte];simp []) | (refine e_go ?_;simp [];(refine hJ _ _ ?_;clear hJ J;simp only [ak,reduceIte]))))
  exact ⟨d,rfl,hpm.trans (k1.wide (by omega) (by omega) (by omega)),hfin d k1 k2,hof.set _⟩
 refine qC ?_;simp [hl0]
 refine qK ?_;simp only [ak,reduceIte]
 refine qS ?_
 refine awp_cut1 (PdJ q l st a b a' b' wb wp n) ?_ ?_
 ·clear hJJ
  cases wb
  ·(repeat' (first | refine qS ?_ | (refine qC ?_;simp [f0,f1,f2,f8]) | (refine w_e [] ?_;intro J hJ;simp only [];simp [f0,f1,f2,f8];(try (refine hJ _ _ ?_;clear hJ J;simp only [ak,reduceIte])))))
   refine qE (breakPatterns c q a' b' st2 (by omega) (by omega) (by omega) hqn2 hc) (by simp [f0,f1,f2,hcl]) ?_;rintro r st' ⟨d,k0,k1,k2⟩
   have w2:=nat_sub_one lim (by omega) (by omega)
   (repeat' ((first | (refine w_e [] ?_;intro J hJ;simp only []) | (refine e_go ?_));simp [f3,w2];(refine hJ _ _ ?_;clear hJ J;simp only [ak,reduceIte])))
   refine ⟨by trivial,?_⟩
   exact ⟨lim - 1,PdI.mk (by simp [f0]) (by simp [f1]) (by simp [f2]) (by simp) (by simp [f8]) (by simp [f9]) (by simp) (by omega) (Nat.lt_of_lt_of_le hqn2 k2.1) (hof.trans k2) k0 (hpm.trans (k1.wide (by omega) (by omega) (by omega))) (hah2.pm k1) (hfin.pm k1)⟩
  ·(repeat' (first | refine qS ?_ | (refine qK ?_;simp only [ak,reduceIte]) | (refine qC ?_;simp [f8]) | (refine w_e [] ?_;intro J hJ;simp only [];simp [f8];(refine hJ _ _ ?_;clear hJ J;simp only [ak,reduceIte]))))
   refine ⟨by trivial,?_⟩
   exact ⟨lim,PdI.mk (by simp [f0]) (by simp [f1]) (by simp [f2]) (by simp [f3]) (by simp [f8]) (by simp [f9]) (by simp) (by omega) hqn2 hof hc hpm hah2 hfin⟩
 clear f0 f1 f2 f3 f8 f9 hlm hqn2 hof hc hpm hah2 hfin hcl hsc c st2 fr hl0 lim
 rintro fr st2 ⟨lim,f0,f1,f2,f3,f8,f9,f10,hlm,hqn2,hof,c,hc,hpm,hah2,hfin⟩
 have hcl:=hpm.len
 have hsc:small c:=by unfold small;omega
 refine qS ?_
 (refine w_e [] ?_;intro J hJ;simp only [];simp [f0,f1,f2])
 refine qE (choosePivot c q a' b' st2 hsc (by omega) (by omega) hqn2 hc) (by simp [f0,f1,f2,hcl]) ?_;rintro r st' ⟨pv,h,rfl,hp1,hp2,k0⟩
 have hc':st'.H q=.box 29 1 (us c):=by rw [k0.H q hqn2];exact hc
 have hqn3:q < st'.next:=Nat.lt_of_lt_of_le hqn2 k0.next
 have hof2:=hof.keeps k0
 clear hc hqn2 hof k0
 (refine e_go ?_;simp [];(refine hJ _ _ ?_;clear hJ J;simp only [ak,reduceIte]))
 refine qS ?_
 refine awp_cut1 (PdK q l st a b a' b' wb wp n) ?_ ?_
 ·clear hJJ
  by_cases hh:h=2
  ·(repeat' (first | refine qS ?_ | (refine qC ?_;simp [hh,f0,f1,f2]) | (refine w_e [] ?_;intro J hJ;simp only [];simp [hh,f0,f1,f2];(try (refine hJ _ _ ?_;clear hJ J;simp only [ak,reduceIte])))))
   refine qE (reverseRange c q a' b' st' hsc (by omega) (by omega) (by omega) hc') (by simp [f0,f1,f2,hcl]) ?_;rintro r st' ⟨d,rfl,k1⟩
   have w2:=nat_sub_one b' (by omega) (by omega)
   obtain ⟨x1,hx1⟩:∃ x,x=b' - 1:=⟨_,rfl⟩
   obtain ⟨x2,hx2⟩:∃ x,x=pv - a':=⟨_,rfl⟩
   obtain ⟨x3,hx3⟩:∃ x,x=x1 - x2:=⟨_,rfl⟩
   have w3:IntKind.i64.wrap ((pv:Int) - (a':Int))=(x2:Int):=by rw [wrap_i64 _ (by omega) (by omega)];omega
   have w4:IntKind.i64.wrap ((x1:Int) - (x2:Int))=(x3:Int):=by rw [wrap_i64 _ (by omega) (by omega)];omega
   rw [← hx1] at w2
   (repeat' (first | refine qS ?_ | ((first | (refine w_e [] ?_;intro J hJ;simp only []) | (refine e_go ?_));simp [f1,f2,w2,w3,w4];(refine hJ _ _ ?_;clear hJ J;simp only [ak,reduceIte]))))
   refine ⟨by trivial,?_⟩
   exact ⟨lim,PdI.mk (by simp [f0]) (by simp [f1]) (by simp [f2]) (by simp [f3]) (by simp [f8]) (by simp [f9]) (by simp [f10]) (by omega) hqn3 (hof2.set _) (by simp) (hpm.trans (k1.wide (by omega) (by omega) (by omega))) (hah2.pm k1) (hfin.pm k1),x3,1,by omega,by omega,by simp,by simp⟩
  ·(repeat' (first | refine qS ?_ | (refine qK ?_;simp only [ak,reduceIte]) | (refine qC ?_;simp [hh]) | (refine w_e [] ?_;intro J hJ;simp only [];simp [hh];(refine hJ _ _ ?_;clear hJ J;simp only [ak,reduceIte]))))
   refine ⟨by trivial,?_⟩
   exact ⟨lim,PdI.mk (by simp [f0]) (by simp [f1]) (by simp [f2]) (by simp [f3]) (by simp [f8]) (by simp [f9]) (by simp [f10]) (by omega) hqn3 hof2 hc' hpm hah2 hfin,pv,h,by omega,by omega,by simp,by simp⟩
 clear f0 f1 f2 f3 f8 f9 f10 hlm hqn3 hof2 hc' hpm hah2 hfin hcl hsc c st2 fr lim h hp1 hp2 pv
 rintro fr st2 ⟨lim,⟨f0,f1,f2,f3,f8,f9,f10,hlm,hqn2,hof,c,hc,hpm,hah2,hfin⟩,pv,h,hp1,hp2,f11,f12⟩
 have hcl:=hpm.len
 have hsc:small c:=by unfold small;omega
 refine qS ?_
 refine awp_cutR (PdK q l st a b a' b' wb wp n) ?_ ?_
 ·clear hJJ
  cases wb
  ·(repeat' (first | refine qS ?_ | (refine qK ?_;simp only [ak,reduceIte]) | (refine qC ?_;simp [f8]) | (refine w_e [] ?_;intro J hJ;simp only [];simp [f8];(refine hJ _ _ ?_;clear hJ J;simp only [ak,reduceIte]))))
   refine .inl ⟨by trivial,?_⟩
   exact ⟨lim,PdI.mk (by simp [f0]) (by simp [f1]) (by simp [f2]) (by simp [f3]) (by simp [f8]) (by simp [f9]) (by simp [f10]) (by omega) hqn2 hof hc hpm hah2 hfin,pv,h,by omega,by omega,by simp [f11],by simp [f12]⟩
  cases wp
  ·(repeat' (first | refine qS ?_ | (refine qK ?_;simp only [ak,reduceIte]) | (refine qC ?_;simp [f8,f9]) | (refine w_e [] ?_;intro J hJ;simp only [];simp [f8,f9];(refine hJ _ _ ?_;clear hJ J;simp only [ak,reduceIte]))))
   refine .inl ⟨by trivial,?_⟩
   exact ⟨lim,PdI.mk (by simp [f0]) (by simp [f1]) (by simp [f2]) (by simp [f3]) (by simp [f8]) (by simp [f9]) (by simp [f10]) (by omega) hqn2 hof hc hpm hah2 hfin,pv,h,by omega,by omega,by simp [f11],by simp [f12]⟩
  by_cases hh:h=1
  rotate_left
  ·(repeat' (first | refine qS ?_ | (refine qK ?_;simp only [ak,reduceIte]) | (refine qC ?_;simp [f8,f9,f12,hh]) | (refine w_e [] ?_;intro J hJ;simp only [];simp [f8,f9,f12,hh];(refine hJ _ _ ?_;clear hJ J;simp only [ak,reduceIte]))))
   refine .inl ⟨by trivial,?_⟩
   exact ⟨lim,PdI.mk (by simp [f0]) (by simp [f1]) (by simp [f2]) (by simp [f3]) (by simp [f8]) (by simp [f9]) (by simp [f10]) (by omega) hqn2 hof hc hpm hah2 hfin,pv,h,by omega,by omega,by simp [f11],by simp [f12]⟩
  (repeat' (first | refine qS ?_ | (refine qC ?_;simp [f8,f9,f12,hh,f0,f1,f2]) | (refine w_e [] ?_;intro J hJ;simp only [];simp [f8,f9,f12,hh,f0,f1,f2];(try (refine hJ _ _ ?_;clear hJ J;simp only [ak,reduceIte])))))
  refine qE (partialInsertionSort c q a' b' st2 hsc (by omega) (by omega) hah2 hc) (by simp [f0,f1,f2,hcl]) ?_;rintro r st' ⟨d,p,rfl,rfl,k1,k2⟩
  cases p
  ·(repeat' (first | (refine qK ?_;simp only [ak,reduceIte]) | (refine qC ?_;simp []) | (refine e_go ?_;simp [];(refine hJ _ _ ?_;clear hJ J;simp only [ak,reduceIte]))))
   refine .inl ⟨by trivial,?_⟩
   exact ⟨lim,PdI.mk (by simp [f0]) (by simp [f1]) (by simp [f2]) (by simp [f3]) (by simp [f8]) (by simp [f9]) (by simp [f10]) (by omega) hqn2 (hof.set _) (by simp) (hpm.trans (k1.wide (by omega) (by omega) (by omega))) (hah2.pm k1) (hfin.pm k1),pv,h,by omega,by omega,by simp [f11],by simp [f12]⟩
  ·(repeat' (first | (refine qR ?_;simp only [ak,reduceIte];simp []) | (refine qC ?_;simp []) | (refine e_go ?_;simp [];(refine hJ _ _ ?_;clear hJ J;simp only [ak,reduceIte]))))
   exact ⟨d,rfl,hpm.trans (k1.wide (by omega) (by omega) (by omega)),hfin d k1 (k2 rfl),hof.set _⟩
 clear f0 f1 f2 f3 f8 f9 f10 f11 f12 hlm hqn2 hof hc hpm hah2 hfin hcl hsc c st2 fr lim h hp1 hp2 pv
 rintro fr st2 ⟨lim,⟨f0,f1,f2,f3,f8,f9,f10,hlm,hqn2,hof,c,hc,hpm,hah2,hfin⟩,pv,h,hp1,hp2,f11,f12⟩
 have hcl:=hpm.len
 have hsc:small c:=by unfold small;omega
 refine qS ?_
 refine awp_cutX (PdK q l st a b a' b' wb wp n) ?_ ?_
 ·by_cases h0:a'=0
  ·clear hJJ
   have h0':¬ (0:Int) < (a':Int):=by omega
   (repeat (refine qS ?_));(refine w_s [] [q] [(0,true),(1,true),(2,true),(3,true),(4,true),(5,true),(6,true),(7,true),(8,true),(9,true),(10,true),(11,true),(12,false),(13,true),(14,true)] ?_;intro J hJ;simp [f0,f1,h0];(refine hJ _ _ ?_;clear hJ J;simp only [ak,reduceIte]))
   (repeat' (first | (refine qK ?_;simp only [ak,reduceIte]) | (refine qC ?_;simp [])))
   refine .inl ⟨by trivial,?_⟩
   exact ⟨lim,PdI.mk (by simp [f0]) (by simp [f1]) (by simp [f2]) (by simp [f3]) (by simp [f8]) (by simp [f9]) (by simp [f10]) (by omega)  hqn2 hof hc hpm hah2 hfin,pv,h,by omega,by omega,by simp [f11],by simp [f12]⟩
  have h0':0 < a':=by omega
  have w2:=nat_sub_one a' (by omega) (by omega)
  have hd1:=qG c (a' - 1) (by omega)
  have hd2:=qG c pv (by omega)
  have hl3:a' - 1 < l.length:=by omega
  have hl4:pv < l.length:=by omega
  have hlow:∀ j,a'≤j→j < b'→c.getD (a' - 1) 0≤c.getD j 0:=hah2 h0'
  generalize hx:c.getD (a' - 1) 0=x at *
  generalize hy:c.getD pv 0=y at *
  (repeat (refine qS ?_));(refine w_s [] [q] [(0,true),(1,true),(2,true),(3,true),(4,true),(5,true),(6,true),(7,true),(8,true),(9,true),(10,true),(11,true),(12,false),(13,true),(14,true)] ?_;intro J hJ;simp [f0,f1,f11,h0',w2,hl3,hl4,hcl,hc,hd1,hd2])
  refine dcallK_of (Less x y _) ?_;rintro r s2 ⟨rfl,rfl⟩
  refine ⟨fun _=>by simp,?_⟩
  by_cases hxy:x < y
  ·clear hJJ
   (refine d_go ?_;simp [hxy];(refine hJ _ _ ?_;clear hJ J;simp only [ak,reduceIte]))
   (repeat' (first | (refine qK ?_;simp only [ak,reduceIte]) | (refine qC ?_;simp [])))
   refine .inl ⟨by trivial,?_⟩
   exact ⟨lim,PdI.mk (by simp [f0]) (by simp [f1]) (by simp [f2]) (by simp [f3]) (by simp [f8]) (by simp [f9]) (by simp [f10]) (by omega)  hqn2 hof hc hpm hah2 hfin,pv,h,by omega,by omega,by simp [f11],by simp [f12]⟩
  (refine d_go ?_;simp [hxy];(refine hJ _ _ ?_;clear hJ J;simp only [ak,reduceIte]))
  (repeat' (first | refine qS ?_ | (refine qC ?_;simp [f0,f1,f2,f11]) | (refine w_e [] ?_;intro J hJ;simp only [];simp [f0,f1,f2,f11])))
  refine qE (partitionEqual c q a' b' pv _ hsc (by omega) (by omega) hp1 hp2 hc) (by simp [f0,f1,f2,f11,hcl]) ?_;rintro r st' ⟨d,mid,rfl,rfl,k1,k2,k3,k4⟩
  (repeat' (first | refine qS ?_ | (refine qX ?_;simp only [ak,reduceIte]) | ((first | (refine w_e [] ?_;intro J hJ;simp only []) | (refine e_go ?_));simp [];(refine hJ _ _ ?_;clear hJ J;simp only [ak,reduceIte]))))
  refine .inr ⟨by simp,?_⟩
  refine hJJ (b' - mid) _ _ (by omega) ⟨mid,b',lim,wb,wp,.nil,by omega,by omega,by omega,rfl,?_⟩
  rw [hy] at k4
  refine PdI.mk (by simp [f0]) (by simp) (by simp [f2]) (by simp [f3]) (by simp [f8]) (by simp [f9]) (by simp) (by omega) hqn2 (hof.set _) (by simp) (hpm.trans (k1.wide (by omega) (by omega) (by omega))) ?_ ?_
  ·intro _ j g1 g2
   have e1:=k4.1 (mid - 1) (by omega) (by omega)
   have e2:=k4.2 j g1 g2
   omega
  ·intro e g1 g2
   refine hfin e (k1.trans (g1.wide (by omega) (by omega) (by have:=k1.len;omega))) (eq_glue k4 (fun j e1 e2=>?_) g1 g2)
   have:=k1.all (fun v=>x≤v) hlow j e1 (by omega)
   omega
 clear f0 f1 f2 f3 f8 f9 f10 f11 f12 hlm hqn2 hof hc hpm hah2 hfin hcl hsc c st2 fr lim h hp1 hp2 pv
 rintro fr st2 ⟨lim,⟨f0,f1,f2,f3,f8,f9,f10,hlm,hqn2,hof,c,hc,hpm,hah2,hfin⟩,pv,h,hp1,hp2,f11,f12⟩
 have hcl:=hpm.len
 have hsc:small c:=by unfold small;omega
 (repeat' (first | refine qS ?_ | (refine w_e [] ?_;intro J hJ;simp only [];simp [f0,f1,f2,f11])))
 refine qE (partition c q a' b' pv _ hsc (by omega) (by omega) hp1 hp2 hc) (by simp [f0,f1,f2,f11,hcl]) ?_;rintro r st' ⟨d,mid,p,rfl,rfl,k1,k2,k3,k4⟩
 have hdl:=k1.len
 have k4:PartedAt d a' mid b':=k4
 have hpm':=hpm.trans (k1.wide ha1 hb2 (by omega))
 have hah':=hah2.pm k1
 have hfin':=hfin.pm k1
 have hof':=hof.set (q:=q) (.box 29 1 (us d))
 have w3:IntKind.i64.wrap ((mid:Int) - (a':Int))=((mid - a':Nat):Int):=by rw [wrap_i64 _ (by omega) (by omega)];omega
 have w4:IntKind.i64.wrap ((b':Int) - (mid:Int))=((b' - mid:Nat):Int):=by rw [wrap_i64 _ (by omega) (by omega)];omega
 have w5:IntKind.i64.wrap ((n:Int) / 8)=((n / 8:Nat):Int):=by
  rw [show (n:Int) / 8=((n / 8:Nat):Int) from rfl]
  exact wrap_i64 _ (by omega) (by omega)
 obtain ⟨z1,hz1⟩:∃ x:Nat,x=mid - a':=⟨_,rfl⟩
 obtain ⟨z2,hz2⟩:∃ x:Nat,x=b' - mid:=⟨_,rfl⟩
 obtain ⟨z3,hz3⟩:∃ x:Nat,x=n / 8:=⟨_,rfl⟩
 obtain ⟨m1,hm1⟩:∃ x:Nat,x=mid+1:=⟨_,rfl⟩
 rw [← hz1] at w3;rw [← hz2] at w4;rw [← hz3] at w5
 have w6:IntKind.i64.wrap ((mid:Int)+1)=(m1:Int):=by rw [qN mid (by omega),hm1]
 clear hc hpm hah2 hfin hof
 (repeat' (first | refine qS ?_ | ((first | (refine w_e [] ?_;intro J hJ;simp only []) | (refine e_go ?_));simp [f1,f2,f10,w3,w4,w5];(refine hJ _ _ ?_;clear hJ J;simp only [ak,reduceIte]))))
 refine qC ?_
 by_cases hzz:z1 < z2
 ·simp [hzz]
  (repeat' (first | refine qS ?_ | (refine w_e [] ?_;intro J hJ;simp only [];simp [f0,f1,f3];(try (refine hJ _ _ ?_;clear hJ J;simp only [ak,reduceIte])))))
  refine qE (ih d q a' mid lim (bx st2 q d) (by omega) (by omega) (by omega) (by omega) (hah'.less (by omega)) (by omega) hqn2 (by simp)) (by simp [f0,f1,f2,f3,hdl,hcl]) ?_;rintro r st' ⟨e,j0,j1,j2,j3⟩
  (repeat' ((first | (refine w_e [] ?_;intro J hJ;simp only []) | (refine e_go ?_));simp [w6];(refine hJ _ _ ?_;clear hJ J;simp only [ak,reduceIte])))
  refine hJJ (b' - m1) _ _ (by omega) ⟨m1,b',lim,decide (z3≤z1),p,.nil,by omega,by omega,by omega,rfl,?_⟩
  refine PdI.mk (by simp [f0]) (by simp) (by simp [f2]) (by simp [f3]) (by simp) (by simp) (by simp) (by omega) (Nat.lt_of_lt_of_le hqn2 j3.1) (hof'.trans j3) j0 (hpm'.trans (j1.wide (by omega) (by omega) (by omega))) ?_ ?_
  ·rw [hm1];exact (k4.pmL j1).aheadR
  ·intro y g1 g2
   rw [hm1] at g1 g2
   refine hfin' y ((j1.wide (by omega) (by omega) (by omega)).trans (g1.wide (by omega) (by omega) (by have:=j1.len;omega))) (((k4.pmL j1).pmR g1).glue (Srt.out j2 fun j e1 e2=>g1.out j (by omega)) g2)
 ·simp [hzz]
  (repeat' (first | refine qS ?_ | (refine w_e [] ?_;intro J hJ;simp only [];simp [f0,f2,f3,w6];(try (refine hJ _ _ ?_;clear hJ J;simp only [ak,reduceIte])))))
  refine qE (ih d q m1 b' lim (bx st2 q d) (by omega) (by omega) (by omega) (by omega) (by rw [hm1];exact k4.aheadR) (by omega) hqn2 (by simp)) (by simp [f0,f1,f2,f3,hdl,hcl]) ?_;rintro r st' ⟨e,j0,j1,j2,j3⟩
  (repeat' ((first | (refine w_e [] ?_;intro J hJ;simp only []) | (refine e_go ?_));simp [];(refine hJ _ _ ?_;clear hJ J;simp only [ak,reduceIte])))
  rw [hm1] at j1 j2
  refine hJJ (mid - a') _ _ (by omega) ⟨a',mid,lim,decide (z3≤z2),p,.nil,by omega,by omega,by omega,rfl,?_⟩
  refine PdI.mk (by simp [f0]) (by simp [f1]) (by simp) (by simp [f3]) (by simp) (by simp) (by simp) (by omega) (Nat.lt_of_lt_of_le hqn2 j3.1) (hof'.trans j3) j0 (hpm'.trans (j1.wide (by omega) (by omega) (by omega))) ?_ ?_
  ·exact (hah'.pm (j1.wide (by omega) (by omega) (by omega))).less (by omega)
  ·intro y g1 g2
   refine hfin' y ((j1.wide (by omega) (by omega) (by omega)).trans (g1.wide (by omega) (by omega) (by have:=j1.len;omega))) (((k4.pmR j1).pmL g1).glue g2 (Srt.out j2 fun j e1 e2=>g1.out j (by omega)))
theorem SortU (l:List Int) (q:Nat) (st:St) (hl:l.length < 65536) (hqn:q < st.next) (hH:st.H q=.box 29 1 (us l)):
 ACalls Tryz.prog 115 [.ms q 0 l.length] st fun r st'=>∃ c,st'.H q=.box 29 1 (us c)∧c.Perm l∧c.Pairwise (·≤·)∧OffS q st st':=by
 have w1:IntKind.u64.wrap (l.length:Int)=(l.length:Int):=wrap_u64 _ (by omega) (by omega)
 have hbl:=(blen_at l.length hl).1
 refine qO tabOk Tryz.func115 rfl rfl Tryz.ntmps115 (rs:=[]) rfl (by simp) ?_
 (repeat' (first | refine qS ?_ | (refine w_e [] ?_;intro J hJ;simp only [];simp [w1];(try (refine hJ _ _ ?_;clear hJ J;simp only [ak,reduceIte])))))
 refine qF (Len l.length _ hl) ?_;rintro r st' ⟨rfl,rfl⟩
 (repeat' (refine e_go ?_;simp []))
 refine qE (pdqsort_upto (l.length+1) l q 0 l.length (blen l.length) _ hl (by omega) (by omega) (by omega) (fun h=>absurd h (by omega)) (by omega) hqn hH) (by simp []) ?_;rintro r st' ⟨c,k1,k2,k3,k4⟩
 (repeat' (refine e_go ?_;simp [];(refine hJ _ _ ?_;clear hJ J;simp only [ak,reduceIte])))
 have hcl:=k2.len
 exact ⟨trivial,c,k1,k2.perm,srt_pair (by rw [hcl];exact k3),k4⟩
end Go.Proofs.YtglkgindpjdoiaaGreat.Aw
namespace Go.Proofs.YtglkgindpjdoiaaGreat.Aw.I
open Go Go.RowKit Go.Proofs.YtglkgindpjdoiaaGreat.Pl
set_option linter.unusedSimpArgs false
set_option linter.unusedVariables false
end Go.Proofs.YtglkgindpjdoiaaGreat.Aw.I
namespace Go.Proofs.YtglkgindpjdoiaaGreat.Aw.CA
open Go Go.RowKit Go.Proofs.YtglkgindpjdoiaaGreat.Pl
set_option linter.unusedSimpArgs false
set_option linter.unusedVariables false
end Go.Proofs.YtglkgindpjdoiaaGreat.Aw.CA
namespace Go.Proofs.YtglkgindpjdoiaaGreat.Aw.I
open Go Go.RowKit Go.Proofs.YtglkgindpjdoiaaGreat.Pl
set_option linter.unusedSimpArgs false
set_option linter.unusedVariables false
end Go.Proofs.YtglkgindpjdoiaaGreat.Aw.I
namespace Go.Proofs.YtglkgindpjdoiaaGreat.Aw
open Go Go.RowKit
set_option linter.unusedSimpArgs false
set_option linter.unusedVariables false
theorem below_ext {w w':World} (g:G) (h:Below w.heap.size w w'):Ext w g w' g:=
 ⟨h.os,h.tape,h.output,h.size,Nat.le_refl _,fun _ _=>rfl,fun _ _=>rfl,fun _ _=>rfl,fun b hb hn=>⟨hn,h.block b hb⟩,fun b k hb hk=>⟨k,hk,Nat.le_refl _,fun o _=>World.cell?_of_block (w:=w) (h.block b hb)⟩⟩
theorem inv_below {w w':World} {g:G} {st:St} (hi:Inv w g st) (h:Below w.heap.size w w'):Inv w' g st:=by
 have he':=below_ext g h
 refine ⟨hi.next,hi.pos,hi.fresh,fun l hl=>Nat.lt_of_lt_of_le (hi.lt l hl) h.size,hi.inj,?_,?_,?_,?_⟩
 ·intro l e s n hl
  obtain ⟨h1,h2,h3,h4⟩:=hi.own l e s n hl
  refine ⟨h1,h2,h3,fun hnl=>?_⟩
  obtain ⟨cur,k1,k2,k3⟩:=h4 hnl
  exact ⟨cur,by rw [h.block _ (Array.getElem?_eq_some_iff.1 k1).1];exact k1,k2,k3⟩
 ·intro l e s cs hl
  obtain ⟨h1,h2,h3⟩:=hi.box l e s cs hl
  refine ⟨h1,h2,fun hnl=>?_⟩
  obtain ⟨cur,k1,k2,k3,k4,k5⟩:=h3 hnl
  exact ⟨cur,by rw [h.block _ (Array.getElem?_eq_some_iff.1 k1).1];exact k1,k2,k3,RepL.mono he' _ _ k4,k5⟩
 ·intro l ag ks es hl
  have hm:=hi.mp l ag ks es hl
  exact hm.keep he' (hi.map_lt hl) (h.block _ hm.blk_lt) rfl
 ·intro l e n hl
  have hm:=hi.qu l e n hl
  exact hm.keep he' (hi.que_lt hl) (h.block _ hm.blk_lt) rfl
theorem adopt_row {w w':World} {g:G} {st:St} (hi:Inv w g st) (h:Below w.heap.size w w') {e:TypeId} {v:Value} {zs:List Value} {cs:List LV} (hrow:w'.ownsRow w.heap.size e 1 v zs.length zs) (hr:∀ w g,RepL w g cs zs):
 ∃ g',Rep w' g' (.ms st.next 0 zs.length) v∧Inv w' g' (st.new (.box e 1 cs))∧Ext w g w' g':=by
 have hi':=inv_below hi h
 have hcl:cs.length=zs.length:=repL_length _ _ (hr w g)
 rcases hrow.2 with ⟨rfl,hn⟩ | ⟨b,cap,cur,rfl,hb,hcur,h1,h2,h3,h4⟩
 ·have hcs:cs=[]:=List.eq_nil_of_length_eq_zero (by omega)
  subst hcs
  refine ⟨g.addNil,?_,inv_nil hi' _ (.inr ⟨_,_,rfl⟩),(below_ext g h).trans (ext_nil w' g)⟩
  simp only [Rep,hn]
  exact ⟨none,0,rfl,Nat.le_refl _,Nat.zero_le _,by simp [G.addNil,hi.next],by simp,by simp [G.addNil,hi.next]⟩
 ·have hnx:=hi.next
  have hext:Ext w g w' (g.add b 0 cap false):=by
   refine ⟨h.os,h.tape,h.output,h.size,Nat.le_succ _,?_,?_,?_,?_,?_⟩
   ·intro l hl;simp [G.add,Nat.ne_of_lt hl]
   ·intro l hl;simp [G.add,Nat.ne_of_lt hl]
   ·intro l hl;simp [G.add,Nat.ne_of_lt hl]
   ·intro x hx hn;exact ⟨by simp only [G.add];rw [if_neg (by omega)];exact hn,h.block x hx⟩
   ·intro x k hx hk;exact ⟨k,by simp only [G.add];rw [if_neg (by omega)];exact hk,Nat.le_refl _,fun o _=>World.cell?_of_block (w:=w) (h.block x hx)⟩
  have hold:∀ l,blk g st l→g.β l≠b:=fun l hl=>by have:=hi.lt l hl;omega
  have hblt:b < w'.heap.size:=(Array.getElem?_eq_some_iff.1 hcur).1
  refine ⟨g.add b 0 cap false,?_,?_,hext⟩
  ·simp only [Rep,G.add,hnx,if_pos]
   exact ⟨_,cap,rfl,h1,h2,fun _=>⟨rfl,fun _=>rfl⟩,fun _=>rfl,Nat.lt_succ_self _⟩
  ·refine ⟨by simp [G.add,St.new,hnx],by simp [St.new],?_,?_,?_,?_,?_,?_,?_⟩
   ·intro l hl
    simp only [St.new] at hl ⊢
    rw [if_neg (by omega)]
    exact hi.fresh l (by omega)
   ·intro l hl
    by_cases e0:l=st.next
    ·subst e0;simp [G.add,hnx,hblt]
    ·rw [blk_old hnx e0] at hl
     have:=hi'.lt l hl
     simp only [G.add,hnx,if_neg e0];exact this
   ·intro l l' hl hl' hbb
    by_cases e0:l=st.next<;>by_cases e1:l'=st.next
    ·omega
    ·rw [blk_old hnx e1] at hl'
     simp only [G.add,hnx,if_pos e0,if_neg e1] at hbb
     exact absurd hbb.symm (hold l' hl')
    ·rw [blk_old hnx e0] at hl
     simp only [G.add,hnx,if_pos e1,if_neg e0] at hbb
     exact absurd hbb (hold l hl)
    ·rw [blk_old hnx e0] at hl
     rw [blk_old hnx e1] at hl'
     simp only [G.add,hnx,if_neg e1,if_neg e0] at hbb
     exact hi.inj l l' hl hl' hbb
   ·intro l e' s n hl
    by_cases e0:l=st.next
    ·simp [St.new,e0] at hl
    ·simp only [St.new,if_neg e0] at hl
     obtain ⟨q1,q2,q3,q4⟩:=hi'.own l e' s n hl
     simp only [G.add,hnx,if_neg e0]
     refine ⟨q1,q2,q3,fun hnl=>?_⟩
     obtain ⟨c',k1,k2,k3⟩:=q4 hnl
     have hne:=hold l (by unfold blk;rw [hl];exact hnl)
     exact ⟨c',k1,k2,by rw [if_neg hne];exact k3⟩
   ·intro l e' s' cs' hl
    by_cases e0:l=st.next
    ·simp only [St.new,if_pos e0] at hl
     injection hl with a1 a2 a3
     subst a1 a2 a3
     refine ⟨?_,?_,fun _=>⟨cur.toList,?_,?_,?_,?_,?_⟩⟩
     ·simp only [G.add,hnx,if_pos e0];exact h2
     ·simp [G.add,hnx,e0]
     ·simp only [G.add,hnx,if_pos e0];simpa using hcur
     ·simp only [G.add,hnx,if_pos e0];simpa using h3
     ·simp only [Array.length_toList];omega
     ·have:cur.toList.take cs.length=zs:=by rw [hcl];simpa using h4
      rw [this];exact hr _ _
     ·simp [G.add,hnx,e0]
    ·simp only [St.new,if_neg e0] at hl
     obtain ⟨k3,k0,k'⟩:=hi'.box l e' s' cs' hl
     refine ⟨?_,?_,fun hnl=>?_⟩
     ·simp only [G.add,hnx,if_neg e0];exact k3
     ·simp only [G.add,hnx,if_neg e0];exact k0
     simp only [G.add,hnx,if_neg e0] at hnl
     obtain ⟨cur',k1,k2,k4,k5,k6⟩:=k' hnl
     have hne:=hold l (by unfold blk;rw [hl];exact hnl)
     obtain ⟨_,_,k'⟩:=hi.box l e' s' cs' hl
     obtain ⟨cur2,m1,m2,m4,m5,m6⟩:=k' hnl
     have hlt:=(Array.getElem?_eq_some_iff.1 m1).1
     refine ⟨cur2,?_,?_,m4,RepL.mono hext _ _ m5,?_⟩
     ·simp only [G.add,hnx,if_neg e0];rw [h.block _ hlt];exact m1
     ·simp only [G.add,hnx,if_neg e0];exact m2
     ·simp only [G.add,hnx,if_neg e0];rw [if_neg hne];exact m6
   ·intro l ag ks es hl
    by_cases e0:l=st.next
    ·simp [St.new,e0] at hl
    ·simp only [St.new,if_neg e0] at hl
     have hm:=hi.mp l ag ks es hl
     exact hm.keep hext (hi.map_lt hl) (h.block _ hm.blk_lt) (by simp only [G.add];rw [if_neg (hold l (hi.map_blk hl))])
   ·intro l e' n hl
    by_cases e0:l=st.next
    ·simp [St.new,e0] at hl
    ·simp only [St.new,if_neg e0] at hl
     have hm:=hi.qu l e' n hl
     exact hm.keep hext (hi.que_lt hl) (h.block _ hm.blk_lt) (by simp only [G.add];rw [if_neg (hold l (hi.que_blk hl))])
theorem repL_us (w:World) (g:G):∀ l:List Int,RepL w g (us l) (l.map (Value.int .u32))
 | []=>by simp [RepL]
 | a::l=>by simp only [List.map_cons,RepL,Rep];exact ⟨_,_,rfl,rfl,repL_us w g l⟩
theorem us_vals {w:World} {g:G}:∀ (l:List Int) (ws:List Value),RepL w g (us l) ws→ws=l.map (Value.int .u32)
 | [],ws,h=>by simpa [RepL] using h
 | a::l,ws,h=>by
   simp only [List.map_cons,RepL,Rep] at h
   obtain ⟨v,ws',rfl,rfl,h2⟩:=h
   rw [us_vals l ws' h2];rfl
theorem Collect (l:List Int) (x:LV) (q:Nat) (st:St) (hl:l.length≤1048576) (hH:st.H q=.box 22 1 [x]) (hx:srcT tab 22 st x=some (l.length,us l)):
 ACalls Tryz.prog 114 [.fn (.func 116) [.pt q 0]] st fun r st'=>r=.ms st.next 0 l.length∧st'=st.new (.box 29 1 (us l)):=by
 refine ⟨enters_of Tryz.func114 (by kernel_rfl) rfl,fun w g vs hi hr=>?_⟩
 simp only [RepL,Rep] at hr
 obtain ⟨v,_,rfl,⟨us1,rfl,v1,_,rfl,⟨rfl,hq⟩,rfl⟩,rfl⟩:=hr
 obtain ⟨_,b2,b3⟩:=hi.box q _ _ _ hH
 have hnl:g.nl q=false:=by
  cases hn:g.nl q with
  | false=>rfl
  | true=>obtain ⟨_,h⟩:=b2 hn;cases h
 obtain ⟨cur,k1,k2,k3,k4,k5⟩:=b3 hnl
 simp only [List.length_cons,List.length_nil,Nat.zero_add,RepL] at k4 k3
 obtain ⟨sv,rest,hsv,hrep,_⟩:=k4
 have hc0:w.cell? ⟨g.β q,0,none⟩=some sv:=by
  rw [cell_of_row w _ _ _ _ _ k1]
  cases cur with
  | nil=>simp at k3
  | cons a cur=>simp at hsv;simp [hsv.1]
 have hI:Rg.Ints w.heap.size w sv l:=by
  obtain ⟨A,cap,rfl,hrw⟩:=src_sound hi hx hrep
  by_cases hl0:l=[]
  ·subst hl0;exact .inl ⟨rfl,A,cap,rfl⟩
  ·obtain ⟨b,o,ws,rfl,m1,m2⟩:=hrw (by cases l with | nil=>exact absurd rfl hl0 | cons a l=>simp)
   have hws:=us_vals l ws m1
   refine .inr ⟨b,o,cap,rfl,?_,fun j hj=>?_⟩
   ·have h0:=m2 0 (by cases l with | nil=>exact absurd rfl hl0 | cons a l=>simp)
    rw [hws] at h0
    cases l with
    | nil=>exact absurd rfl hl0
    | cons a l=>exact cell_lt (a:=⟨b,o+0,none⟩) (v:=.int .u32 a) (by simpa using h0)
   ·rw [m2 j (by simpa using hj),hws]
    simp [hj]
 refine (((Rg.collect_in Fence.wide 4 trivial trivial trivial rfl (Nat.le_refl _) (g.β q) sv l hl w (cell_lt hc0) hc0 hI).calls room_wide)).mono ?_
 rintro e w' ⟨v,rfl,hrow,hbel⟩
 have hlen:l.length=(l.map (Value.int .u32)).length:=by simp
 rw [hlen] at hrow
 obtain ⟨g',h1,h2,h3⟩:=adopt_row (cs:=us l) hi hbel hrow (fun w g=>repL_us w g l)
 rw [← hlen] at h1
 exact ⟨v,_,_,g',rfl,⟨rfl,rfl⟩,h1,h2,h3⟩
def prim:XCall:=fun f args st=>if f=114 then match args with
 | [.fn (.func g) [.pt q 0]]=>if g=116 then match st.H q with
     | .box e s [x]=>if e=22∧s=1 then match srcT tab 22 st x with
        | some (n,ds)=>match intsL ds with
          | some (ks,ns)=>if (ks.all fun k=>decide (k=.u32))=true∧ns.length=n∧n≤1048576 then some [(.ms st.next 0 n,st.new (.box 29 1 (us ns)))] else none
          | none=>none
        | none=>none
       else none
     | _=>none
   else none
 | _=>none
 else none
theorem intsL_us:∀ (ds:List LV) (ks:List IntKind) (ns:List Int),intsL ds=some (ks,ns)→(ks.all fun k=>decide (k=.u32))=true→ds=us ns
 | [],ks,ns,h,_=>by simp only [intsL,Option.some.injEq,Prod.mk.injEq] at h;obtain ⟨rfl,rfl⟩:=h;rfl
 | c::ds,ks,ns,h,ha=>by
   cases c with
   | atom x=>
     cases x with
     | int k n=>
       simp only [intsL] at h
       cases hi:intsL ds with
       | none=>simp [hi] at h
       | some p=>
         obtain ⟨ks',ns'⟩:=p
         simp only [hi,Option.some.injEq,Prod.mk.injEq] at h
         obtain ⟨rfl,rfl⟩:=h
         simp only [List.all_cons,Bool.and_eq_true,decide_eq_true_eq] at ha
         obtain ⟨rfl,ha⟩:=ha
         rw [intsL_us ds ks' ns' hi ha];rfl
     | _=>simp [intsL] at h
   | _=>simp [intsL] at h
theorem prim_ok:CallOk Tryz.prog prim:=by
 intro f args st rs h
 unfold prim at h
 split at h
 ·rename_i hf
  subst hf
  split at h
  ·rename_i g q
   split at h
   ·rename_i hg
    subst hg
    split at h
    ·rename_i e s x hH
     split at h
     ·rename_i hes
      obtain ⟨rfl,rfl⟩:=hes
      split at h
      ·rename_i n ds hsrc
       split at h
       ·rename_i ks ns hin
        split at h
        ·rename_i hc
         obtain ⟨c1,rfl,c3⟩:=hc
         injection h with h
         subst h
         have:=intsL_us ds ks ns hin c1
         subst this
         exact (Collect ns x q st c3 hH hsrc).mono (by rintro r st' ⟨rfl,rfl⟩;simp)
        ·cases h
       ·cases h
      ·cases h
     ·cases h
    ·cases h
   ·cases h
  ·cases h
 ·cases h
structure Mp where
 g:Gr
 rots:List (List Int)
 deriving DecidableEq
abbrev rowsL (rs:List (List Int)):List LV:=rs.map fun r=>.sl 0 r.length (us r)
abbrev mpL (m:Mp):List LV:=grL m.g++[.sl 0 m.rots.length (rowsL m.rots)]
theorem rowsL_drop (rs:List (List Int)) (k:Nat) (hk:k < rs.length):(rowsL rs).drop k=.sl 0 (rs.getD k []).length (us (rs.getD k []))::(rowsL rs).drop (k+1):=by
 unfold rowsL
 rw [List.drop_eq_getElem_cons (by simpa using hk)]
 simp [hk]
def Mp.ok (m:Mp):Prop:=m.g.ok∧m.rots.length≤maxLen∧∀ r∈m.rots,r.length≤maxLen∧∀ x∈r,U32 x
theorem shp_mp {lvs:List LV} (h:Shp tab 28 lvs):∃ m:Mp,lvs=mpL m∧m.ok:=by
 obtain ⟨ps,rfl,h1,h2⟩:=shp_struct rfl rfl h
 match ps,h1 with
 | [p,q],_=>
   obtain ⟨g,rfl,k1⟩:=shp_gr (h2 0 _ p rfl rfl)
   obtain ⟨l,rfl,k3,k4⟩:=shp_uss (h2 1 _ q rfl rfl)
   exact ⟨⟨g,l⟩,rfl,k1,k3,k4⟩
theorem mget_mset (es:List (List Int×LV)) (a x:List Int) (v:LV):mget (mset es a v) x=if x=a then some v else mget es x:=by
 induction es with
 | nil=>
   simp only [mset,mget,beq_iff_eq]
 | cons p es ih=>
   by_cases h:a=p.1
   ·have:mset (p::es) a v=(a,v)::es:=by simp [mset,h]
    rw [this]
    simp only [mget,beq_iff_eq]
    by_cases hx:x=a
    ·simp [hx]
    ·have:¬ x=p.1:=by rw [← h];exact hx
     simp [hx,this]
   ·have:mset (p::es) a v=p::mset es a v:=by simp [mset,h]
    rw [this]
    simp only [mget,beq_iff_eq]
    by_cases hx:x=p.1
    ·have:¬ x=a:=fun h'=>h (by rw [← h',hx])
     rw [if_pos hx,if_neg this,if_pos hx]
    ·simp [hx,ih]
end Go.Proofs.YtglkgindpjdoiaaGreat.Aw
namespace Go.Proofs.YtglkgindpjdoiaaGreat.Aw
open Go Go.RowKit Go.Proofs.YtglkgindpjdoiaaGreat.Pl
set_option linter.unusedSimpArgs false
set_option linter.unusedVariables false
@[simp] theorem new_set (st:St) (a b:LObj):(st.new a).set st.next b=st.new b:=St.ext' rfl fun y=>by by_cases hy:y=st.next<;>simp [hy]
theorem eds_length (l:List Ed):(eds l).length=l.length * 3:=by
 induction l with
 | nil=>rfl
 | cons e l ih=>simp only [eds,List.flatMap_cons,List.length_append,List.length_cons,List.length_nil] at ih ⊢;omega
abbrev ed0:Ed:=⟨0,0,0⟩
theorem eds_drop (l:List Ed) (k:Nat) (hk:k < l.length):(eds l).drop (k * 3)=u (l.getD k ed0).id::u (l.getD k ed0).a::u (l.getD k ed0).b::eds (l.drop (k+1)):=by
 induction l generalizing k with
 | nil=>simp at hk
 | cons e l ih=>
   cases k with
   | zero=>rfl
   | succ k=>
     have:(k+1) * 3=k * 3+1+1+1:=by omega
     rw [this]
     simp only [eds,List.flatMap_cons,edL,List.cons_append,List.drop_succ_cons,List.nil_append,List.getD_cons_succ]
     exact ih k (by simpa using hk)
def firstNZ (f:Nat→Int):Nat→Int
 | 0=>0
 | n+1=>if firstNZ f n≠0 then firstNZ f n else f n
theorem firstNZ_zero {f:Nat→Int} {n:Nat} (h:∀ j,j < n→f j=0):firstNZ f n=0:=by
 induction n with
 | zero=>rfl
 | succ n ih=>simp [firstNZ,ih (fun j hj=>h j (by omega)),h n (by omega)]
theorem firstNZ_eq {f:Nat→Int} {n k:Nat} {v:Int} (hk:k < n) (h:∀ j,j < k→f j=0) (hv:f k=v) (h0:v≠0):firstNZ f n=v:=by
 induction n with
 | zero=>omega
 | succ n ih=>
   rcases Nat.lt_or_ge k n with h1 | h1
   ·have:=ih h1
    simp [firstNZ,this,h0]
   ·have:k=n:=by omega
    subst this
    simp [firstNZ,firstNZ_zero h,hv]
def numb (n ahead:Int) (first:Bool):Int:=if n < 1∨1048576 < n then 2 else if first=false∧n≤ahead then 19 else 0
def badV (g:Gr) (k:Nat):Int:=numb (g.vs.getD k 0) (g.vs.getD (k - 1) 0) (decide (k=0))
def badE (g:Gr) (k:Nat):Int:=
 let x:=g.es.getD k ed0
 let n:=numb x.id (g.es.getD (k - 1) ed0).id (decide (k=0))
 if n≠0 then n else if x.a=x.b then 20 else if x.a∉g.vs∨x.b∉g.vs then 21 else 0
def chk (g:Gr):Int:=if 64 < g.vs.length∨160 < g.es.length then 6 else if firstNZ (badV g) g.vs.length≠0 then firstNZ (badV g) g.vs.length else firstNZ (badE g) g.es.length
theorem Has (g:Gr) (v:Int) (st:St) (hl:small g.vs):
 ACalls Tryz.prog 90 [.ag (grL g),u v] st fun r st'=>r=bb (decide (v∈g.vs))∧Keeps st st':=by
 obtain ⟨l,es⟩:=g
 simp only at hl ⊢
 unfold small at hl
 refine qO tabOk Tryz.func90 rfl rfl Tryz.ntmps90 (rs:=[.tmp 4]) rfl (by simp) ?_
 (repeat' (first | refine qS ?_ | refine qB ?_ | (refine w_e [] ?_;intro J hJ;simp only [];simp [];(refine hJ _ _ ?_;clear hJ J;simp only [ak,reduceIte]))))
 refine qL (fun n fr st'=>∃ k:Nat,k≤l.length∧n=l.length - k∧fr 8=.sl 0 l.length (us l)∧fr 1=u v∧fr 9=i l.length∧fr 10=i k∧Keeps st st'∧∀ j (hj:j < l.length),j < k→l[j]≠v) l.length ?_ ?_
 ·exact ⟨0,by omega,by omega,by simp,by simp,by simp,by simp,Keeps.new _ _,fun j _ h=>by omega⟩
 rintro n fr st' ⟨k,hk,rfl,h8,h1,h9,h10,hkp,hno⟩ JJ hJJ
 by_cases hlt:k < l.length
 ·have hd:=us_drop_head l k hlt
  have hw:=qN k (by omega)
  (repeat' (first | refine qS ?_ | refine qB ?_ | (refine qK ?_;simp only [ak,reduceIte]) | (refine qR ?_;simp only [ak,reduceIte];simp [h8,h1,h9,h10,hlt,hd,hw]) | (refine qC ?_;simp [h8,h1,h9,h10,hlt,hd,hw];(try with_reducible refine ⟨?_,?_⟩)<;>(try with_reducible intro hc)) | (refine w_e [] ?_;intro J hJ;simp only [];simp [h8,h1,h9,h10,hlt,hd,hw];(refine hJ _ _ ?_;clear hJ J;simp only [ak,reduceIte]))))
  ·exact ⟨by rw [← hc];exact List.getElem_mem hlt,hkp⟩
  ·refine hJJ _ _ _ ?_ ⟨k+1,by omega,rfl,by simp [h8],by simp [h1],by simp [h9],by simp,hkp,fun j hj hjk=>?_⟩
   ·omega
   ·rcases Nat.lt_or_ge j k with h | h
    ·exact hno j hj h
    ·obtain rfl:j=k:=by omega
     exact hc
 ·(repeat' (first | refine qS ?_ | (refine qX ?_;simp only [ak,reduceIte]) | (refine qR ?_;simp only [ak,reduceIte];simp [h8,h1,h9,h10,hlt]) | (refine qC ?_;simp [h8,h1,h9,h10,hlt]) | (refine w_e [] ?_;intro J hJ;simp only [];simp [h8,h1,h9,h10,hlt];(refine hJ _ _ ?_;clear hJ J;simp only [ak,reduceIte]))))
  refine ⟨fun hm=>?_,hkp⟩
  obtain ⟨j,hj,rfl⟩:=List.getElem_of_mem hm
  exact hno j hj (by omega) rfl
theorem Vert (g:Gr) (v:Int) (st:St) (hl:small g.vs):
 ACalls Tryz.prog 45 [.ag (grL g),u v] st fun r st'=>r=i (gi g.vs v)∧Keeps st st':=by
 obtain ⟨l,es⟩:=g
 simp only at hl ⊢
 refine qO tabOk Tryz.func45 rfl rfl Tryz.ntmps45 (rs:=[.tmp 4]) rfl (by simp) ?_
 (repeat' (first | refine qS ?_ | (refine w_e [] ?_;intro J hJ;simp only [];simp [];(try (refine hJ _ _ ?_;clear hJ J;simp only [ak,reduceIte])))))
 refine qE (Index l 0 v _ hl) (by simp []) ?_;rintro r st' ⟨rfl,rfl⟩
 (repeat' (first | (refine qR ?_;simp only [ak,reduceIte];simp []) | (refine e_go ?_;simp [];(refine hJ _ _ ?_;clear hJ J;simp only [ak,reduceIte]))))
 exact Keeps.new _ _
theorem number (n ahead:Int) (first:Bool) (st:St):
 ACalls Tryz.prog 113 [u n,u ahead,bb first] st fun r st'=>r=i (numb n ahead first)∧st'=st:=by
 unfold numb
 refine qO tabOk Tryz.func113 rfl rfl Tryz.ntmps113 (rs:=[.tmp 6]) rfl (by simp) ?_
 by_cases h1:n < 1
 ·(repeat' (first | refine qS ?_ | refine qB ?_ | (refine qR ?_;simp only [ak,reduceIte];simp [h1]) | (refine qC ?_;simp [h1]) | (refine w_e [] ?_;intro J hJ;simp only [];simp [h1];(refine hJ _ _ ?_;clear hJ J;simp only [ak,reduceIte]))))
 by_cases h2:1048576 < n
 ·(repeat' (first | refine qS ?_ | refine qB ?_ | (refine qR ?_;simp only [ak,reduceIte];simp [h1,h2]) | (refine qC ?_;simp [h1,h2]) | (refine w_e [] ?_;intro J hJ;simp only [];simp [h1,h2];(refine hJ _ _ ?_;clear hJ J;simp only [ak,reduceIte]))))
 cases first
 ·by_cases h3:n≤ahead
  ·(repeat' (first | refine qS ?_ | refine qB ?_ | (refine qR ?_;simp only [ak,reduceIte];simp [h1,h2,h3]) | (refine qC ?_;simp [h1,h2,h3]) | (refine w_e [] ?_;intro J hJ;simp only [];simp [h1,h2,h3];(refine hJ _ _ ?_;clear hJ J;simp only [ak,reduceIte]))))
  ·(repeat' (first | refine qS ?_ | refine qB ?_ | (refine qK ?_;simp only [ak,reduceIte]) | (refine qR ?_;simp only [ak,reduceIte];simp [h1,h2,h3]) | (refine qC ?_;simp [h1,h2,h3]) | (refine w_e [] ?_;intro J hJ;simp only [];simp [h1,h2,h3];(refine hJ _ _ ?_;clear hJ J;simp only [ak,reduceIte]))))
 ·(repeat' (first | refine qS ?_ | refine qB ?_ | (refine qK ?_;simp only [ak,reduceIte]) | (refine qR ?_;simp only [ak,reduceIte];simp [h1,h2]) | (refine qC ?_;simp [h1,h2]) | (refine w_e [] ?_;intro J hJ;simp only [];simp [h1,h2];(refine hJ _ _ ?_;clear hJ J;simp only [ak,reduceIte]))))
theorem Check (g:Gr) (st:St) (hv:g.vs.length≤1000) (he:g.es.length≤1000):
 ACalls Tryz.prog 81 [.ag (grL g)] st fun r st'=>r=i (chk g)∧Keeps st st':=by
 have hsm:small g.vs:=by unfold small;omega
 refine qO tabOk Tryz.func81 rfl rfl Tryz.ntmps81 (rs:=[.tmp 2]) rfl (by simp) ?_
 by_cases h1:(64:Int) < (g.vs.length:Int)
 ·have:chk g=6:=by unfold chk;rw [if_pos (by omega)]
  (repeat' (first | refine qS ?_ | (refine qR ?_;simp only [ak,reduceIte];simp [h1,this]) | (refine qC ?_;simp [h1,this]) | (refine w_e [] ?_;intro J hJ;simp only [];simp [h1,this];(refine hJ _ _ ?_;clear hJ J;simp only [ak,reduceIte]))))
  exact Keeps.new _ _
 by_cases h2:(160:Int) < (g.es.length:Int)
 ·have:chk g=6:=by unfold chk;rw [if_pos (by omega)]
  (repeat' (first | refine qS ?_ | (refine qR ?_;simp only [ak,reduceIte];simp [h1,h2,this]) | (refine qC ?_;simp [h1,h2,this]) | (refine w_e [] ?_;intro J hJ;simp only [];simp [h1,h2,this];(refine hJ _ _ ?_;clear hJ J;simp only [ak,reduceIte]))))
  exact Keeps.new _ _
 have hch:chk g=if firstNZ (badV g) g.vs.length≠0 then firstNZ (badV g) g.vs.length else firstNZ (badE g) g.es.length:=by unfold chk;rw [if_neg (by omega)]
 (repeat' (first | refine qS ?_ | refine qB ?_ | (refine qK ?_;simp only [ak,reduceIte]) | (refine qC ?_;simp [h1,h2]) | (refine w_e [] ?_;intro J hJ;simp only [];simp [h1,h2];(refine hJ _ _ ?_;clear hJ J;simp only [ak,reduceIte]))))
 refine qL (fun n fr st'=>∃ k:Nat,k≤g.vs.length∧n=g.vs.length - k∧fr 1=.pt st.next 0∧fr 21=.sl 0 g.vs.length (us g.vs)∧fr 22=i g.vs.length∧fr 23=i k∧fr 3=u (if k=0 then 0 else g.vs.getD (k - 1) 0)∧st'=st.new (.box 25 2 (grL g))∧∀ j,j < k→badV g j=0) g.vs.length ?_ ?_
 ·exact ⟨0,by omega,by omega,by simp,by simp,by simp,by simp,by simp,rfl,fun j h=>by omega⟩
 rintro n fr st' ⟨k,hk,rfl,f1,f21,f22,f23,f3,rfl,hno⟩ JJ hJJ
 by_cases hlt:k < g.vs.length
 ·have hd:=qG g.vs k hlt
  have hw:=qN k (by omega)
  have hbad:badV g k=numb (g.vs.getD k 0) (if k=0 then 0 else g.vs.getD (k - 1) 0) (decide (k=0)):=by
   unfold badV
   by_cases h0:k=0
   ·subst h0;simp [numb]
   ·simp [h0]
  generalize hy:(if k=0 then (0:Int) else g.vs.getD (k - 1) 0)=y at *
  generalize hx:g.vs.getD k 0=x at *
  have hk0:((k:Int)==0)=decide (k=0):=by by_cases h0:k=0<;>simp [h0]
  (repeat' (first | refine qS ?_ | refine qB ?_ | (refine qK ?_;simp only [ak,reduceIte]) | (refine qC ?_;simp [f1,f21,f22,f23,f3,hlt,hd,hw,hk0]) | (refine w_e [] ?_;intro J hJ;simp only [];simp [f1,f21,f22,f23,f3,hlt,hd,hw,hk0];(try (refine hJ _ _ ?_;clear hJ J;simp only [ak,reduceIte])))))
  refine qE (number x y (decide (k=0)) _) (by simp []) ?_;rintro r st' ⟨rfl,rfl⟩
  rw [← hbad]
  by_cases hb:badV g k=0
  ·(repeat' (first | refine qS ?_ | (refine qK ?_;simp only [ak,reduceIte]) | (refine qC ?_;simp [f23,hw,hb]) | ((first | (refine w_e [] ?_;intro J hJ;simp only []) | (refine e_go ?_));simp [f23,hw,hb];(refine hJ _ _ ?_;clear hJ J;simp only [ak,reduceIte]))))
   refine hJJ _ _ _ ?_ ⟨k+1,by omega,rfl,by simp [f1],by simp [f21],by simp [f22],by simp,by rw [if_neg (by omega),Nat.add_sub_cancel,hx];simp,rfl,fun j hj=>?_⟩
   ·omega
   ·rcases Nat.lt_or_ge j k with h | h
    ·exact hno j h
    ·obtain rfl:j=k:=by omega
     exact hb
  ·have hf:=firstNZ_eq hlt hno rfl hb
   have hr:chk g=badV g k:=by rw [hch,hf,if_pos hb]
   (repeat' (first | refine qS ?_ | (refine qR ?_;simp only [ak,reduceIte];simp [hb]) | (refine qC ?_;simp [hb]) | ((first | (refine w_e [] ?_;intro J hJ;simp only []) | (refine e_go ?_));simp [hb];(refine hJ _ _ ?_;clear hJ J;simp only [ak,reduceIte]))))
   exact ⟨hr.symm,Keeps.new _ _⟩
 have hk':k=g.vs.length:=by omega
 have hz:firstNZ (badV g) g.vs.length=0:=firstNZ_zero (fun j hj=>hno j (by omega))
 rw [hz] at hch
 simp only [ne_eq,not_true_eq_false,if_false] at hch
 clear hJJ hno hz
 have hel:=eds_length g.es
 generalize hy:(if k=0 then (0:Int) else g.vs.getD (k - 1) 0)=y at *
 (repeat' (first | refine qS ?_ | refine qB ?_ | (refine qX ?_;simp only [ak,reduceIte]) | (refine qC ?_;simp [f1,f21,f22,f23,f3,hlt]) | (refine w_e [] ?_;intro J hJ;simp only [];simp [f1,f21,f22,f23,f3,hlt];(refine hJ _ _ ?_;clear hJ J;simp only [ak,reduceIte]))))
 refine qL (fun n fr st'=>∃ k:Nat,k≤g.es.length∧n=g.es.length - k∧fr 1=.pt st.next 0∧fr 39=.sl 0 g.es.length (eds g.es)∧fr 40=i g.es.length∧fr 41=i k∧(∃ z,fr 3=u z∧(k≠0→z=(g.es.getD (k - 1) ed0).id))∧Keeps (st.new (.box 25 2 (grL g))) st'∧∀ j,j < k→badE g j=0) g.es.length ?_ ?_
 ·exact ⟨0,by omega,by omega,by simp [f1],by simp,by simp,by simp,⟨y,by simp [f3],by simp⟩,Keeps.refl _,fun j h=>by omega⟩
 clear f1 f21 f22 f23 f3 hlt hk' hk hy y fr k
 rintro n fr st1 ⟨k,hk,rfl,f1,f39,f40,f41,⟨z,f3,hz⟩,hkp,hno⟩ JJ hJJ
 have hgH:st1.H st.next=.box 25 2 (grL g):=by rw [hkp.H _ (by simp)];simp
 have hnx:¬ st.next=st1.next:=by have:=hkp.next;simp only [new_next] at this;omega
 have hkp0:=(Keeps.new st (.box 25 2 (grL g))).trans hkp
 by_cases hlt:k < g.es.length
 ·have hd:=eds_drop g.es k hlt
  have hw:=qN k (by omega)
  have hk3:k * 3 < g.es.length * 3:=by omega
  have hk30:k * 3+3≤g.es.length * 3:=by omega
  have hbad:badE g k=(let x:=g.es.getD k ed0;let n:=numb x.id z (decide (k=0));if n≠0 then n else if x.a=x.b then 20 else if x.a∉g.vs∨x.b∉g.vs then 21 else 0):=by
   unfold badE
   by_cases h0:k=0
   ·subst h0;simp [numb]
   ·rw [hz h0]
  generalize hx:g.es.getD k ed0=x at *
  obtain ⟨xi,xa,xb⟩:=x
  simp only at hd hbad
  have hk0:((k:Int)==0)=decide (k=0):=by by_cases h0:k=0<;>simp [h0]
  (repeat' (first | refine qS ?_ | refine qB ?_ | (refine qK ?_;simp only [ak,reduceIte]) | (refine qC ?_;simp [f1,f39,f40,f41,f3,hlt,hd,hw,hk0,hel,hk3,hgH,hnx]) | (refine w_e [] ?_;intro J hJ;simp only [];simp [f1,f39,f40,f41,f3,hlt,hd,hw,hk0,hel,hk3,hgH,hnx];(try (refine hJ _ _ ?_;clear hJ J;simp only [ak,reduceIte])))))
  refine qE (number xi z (decide (k=0)) _) (by simp []) ?_;rintro r st' ⟨rfl,rfl⟩
  by_cases hb:numb xi z (decide (k=0))=0
  rotate_left
  ·have hb':badE g k=numb xi z (decide (k=0)):=by rw [hbad,if_pos hb]
   have hr:chk g=numb xi z (decide (k=0)):=by rw [hch];exact firstNZ_eq hlt hno hb' hb
   (repeat' (first | refine qS ?_ | (refine qR ?_;simp only [ak,reduceIte];simp [hb]) | (refine qC ?_;simp [hb]) | ((first | (refine w_e [] ?_;intro J hJ;simp only []) | (refine e_go ?_));simp [hb];(refine hJ _ _ ?_;clear hJ J;simp only [ak,reduceIte]))))
   exact ⟨hr.symm,hkp0.trans (Keeps.new _ _)⟩
  rw [if_neg (by simp [hb])] at hbad
  by_cases hab:xa=xb
  ·have hb':badE g k=20:=by rw [hbad,if_pos hab]
   have hr:chk g=20:=by rw [hch];exact firstNZ_eq hlt hno hb' (by decide)
   (repeat' (first | refine qS ?_ | (refine qK ?_;simp only [ak,reduceIte]) | (refine qR ?_;simp only [ak,reduceIte];simp [hb,hab,hr]) | (refine qC ?_;simp [hb,hab,hr]) | ((first | (refine w_e [] ?_;intro J hJ;simp only []) | (refine e_go ?_));simp [hb,hab,hr];(refine hJ _ _ ?_;clear hJ J;simp only [ak,reduceIte]))))
   exact hkp0.trans (Keeps.new _ _)
  rw [if_neg hab] at hbad
  (repeat' (first | refine qS ?_ | (refine qK ?_;simp only [ak,reduceIte]) | (refine qC ?_;simp [hb,hab,f1,hnx,hgH]) | ((first | (refine w_e [] ?_;intro J hJ;simp only []) | (refine e_go ?_));simp [hb,hab,f1,hnx,hgH];(try (refine hJ _ _ ?_;clear hJ J;simp only [ak,reduceIte])))))
  refine qE (Vert g xa _ hsm) (by simp []) ?_;rintro r st' ⟨rfl,hk1⟩
  have hB1:st'.H st1.next=.box 31 3 [u xi,u xa,u xb]:=by rw [hk1.H _ (by simp)];simp
  have hgH1:st'.H st.next=.box 25 2 (grL g):=by
   rw [hk1.H _ (by have:=hkp.next;simp only [new_next] at this ⊢;omega),new_H,if_neg hnx];exact hgH
  have hkp1:=(hkp.trans (Keeps.new _ _)).trans hk1
  have hkp01:=(hkp0.trans (Keeps.new _ _)).trans hk1
  by_cases hma:xa∈g.vs
  rotate_left
  ·rw [gi_not hma]
   have hb':badE g k=21:=by rw [hbad,if_pos (.inl hma)]
   have hr:chk g=21:=by rw [hch];exact firstNZ_eq hlt hno hb' (by decide)
   (repeat' (first | refine qS ?_ | (refine qR ?_;simp only [ak,reduceIte];simp [f1,hB1,hgH1,hr]) | (refine qC ?_;simp [f1,hB1,hgH1,hr]) | ((first | (refine w_e [] ?_;intro J hJ;simp only []) | (refine e_go ?_));simp [f1,hB1,hgH1,hr];(refine hJ _ _ ?_;clear hJ J;simp only [ak,reduceIte]))))
   exact hkp01
  rw [gi_mem hma]
  have hn0:¬ ((g.vs.idxOf xa:Nat):Int) < 0:=by omega
  (refine e_go ?_;simp [f1,hB1,hgH1,hn0])
  refine qE (Vert g xb _ hsm) (by simp []) ?_;rintro r st' ⟨rfl,hk2⟩
  by_cases hmb:xb∈g.vs
  rotate_left
  ·rw [gi_not hmb]
   have hb':badE g k=21:=by rw [hbad,if_pos (.inr hmb)]
   have hr:chk g=21:=by rw [hch];exact firstNZ_eq hlt hno hb' (by decide)
   (repeat' (first | refine qS ?_ | (refine qR ?_;simp only [ak,reduceIte];simp [hr]) | (refine qC ?_;simp [hr]) | ((first | (refine w_e [] ?_;intro J hJ;simp only []) | (refine e_go ?_));simp [hr];(refine hJ _ _ ?_;clear hJ J;simp only [ak,reduceIte]))))
   exact hkp01.trans hk2
  rw [gi_mem hmb]
  have hn1:¬ ((g.vs.idxOf xb:Nat):Int) < 0:=by omega
  have hb':badE g k=0:=by rw [hbad,if_neg (by simp [hma,hmb])]
  (repeat' (first | (refine qK ?_;simp only [ak,reduceIte]) | (refine qC ?_;simp [f41,hw,hn1]) | ((first | (refine w_e [] ?_;intro J hJ;simp only []) | (refine e_go ?_));simp [f41,hw,hn1];(refine hJ _ _ ?_;clear hJ J;simp only [ak,reduceIte]))))
  refine hJJ _ _ _ ?_ ⟨k+1,by omega,rfl,by simp [f1],by simp [f39],by simp [f40],by simp,⟨xi,by simp,fun _=>by rw [Nat.add_sub_cancel,hx]⟩,hkp1.trans hk2,fun j hj=>?_⟩
  ·omega
  ·rcases Nat.lt_or_ge j k with h | h
   ·exact hno j h
   ·obtain rfl:j=k:=by omega
    exact hb'
 ·have hr:chk g=0:=by rw [hch];exact firstNZ_zero (fun j hj=>hno j (by omega))
  clear hJJ
  (repeat' (first | refine qS ?_ | (refine qX ?_;simp only [ak,reduceIte]) | (refine qR ?_;simp only [ak,reduceIte];simp [f1,f39,f40,f41,f3,hlt,hr]) | (refine qC ?_;simp [f1,f39,f40,f41,f3,hlt,hr]) | (refine w_e [] ?_;intro J hJ;simp only [];simp [f1,f39,f40,f41,f3,hlt,hr];(refine hJ _ _ ?_;clear hJ J;simp only [ak,reduceIte]))))
  exact hkp0
theorem ref_Check (g:Gr) (st:St) (hv:g.vs.length≤1000) (he:g.es.length≤1000):
 ACalls Tryz.prog 54 [.ag (grL g)] st fun r st'=>r=i (chk g)∧Keeps st st':=by
 have hsm:small g.vs:=by unfold small;omega
 refine qO tabOk Tryz.func54 rfl rfl Tryz.ntmps54 (rs:=[.tmp 2]) rfl (by simp) ?_
 by_cases h1:(64:Int) < (g.vs.length:Int)
 ·have:chk g=6:=by unfold chk;rw [if_pos (by omega)]
  (repeat' (first | refine qS ?_ | (refine qR ?_;simp only [ak,reduceIte];simp [h1,this]) | (refine qC ?_;simp [h1,this]) | (refine w_e [] ?_;intro J hJ;simp only [];simp [h1,this];(refine hJ _ _ ?_;clear hJ J;simp only [ak,reduceIte]))))
  exact Keeps.new _ _
 by_cases h2:(160:Int) < (g.es.length:Int)
 ·have:chk g=6:=by unfold chk;rw [if_pos (by omega)]
  (repeat' (first | refine qS ?_ | (refine qR ?_;simp only [ak,reduceIte];simp [h1,h2,this]) | (refine qC ?_;simp [h1,h2,this]) | (refine w_e [] ?_;intro J hJ;simp only [];simp [h1,h2,this];(refine hJ _ _ ?_;clear hJ J;simp only [ak,reduceIte]))))
  exact Keeps.new _ _
 have hch:chk g=if firstNZ (badV g) g.vs.length≠0 then firstNZ (badV g) g.vs.length else firstNZ (badE g) g.es.length:=by unfold chk;rw [if_neg (by omega)]
 (repeat' (first | refine qS ?_ | refine qB ?_ | (refine qK ?_;simp only [ak,reduceIte]) | (refine qC ?_;simp [h1,h2]) | (refine w_e [] ?_;intro J hJ;simp only [];simp [h1,h2];(refine hJ _ _ ?_;clear hJ J;simp only [ak,reduceIte]))))
 refine qL (fun n fr st'=>∃ k:Nat,k≤g.vs.length∧n=g.vs.length - k∧fr 1=.pt st.next 0∧fr 18=.sl 0 g.vs.length (us g.vs)∧fr 19=i g.vs.length∧fr 20=i k∧st'=st.new (.box 25 2 (grL g))∧∀ j,j < k→badV g j=0) g.vs.length ?_ ?_
 ·exact ⟨0,by omega,by omega,by simp,by simp,by simp,by simp,rfl,fun j h=>by omega⟩
 rintro n fr st' ⟨k,hk,rfl,f1,f18,f19,f20,rfl,hno⟩ JJ hJJ
 by_cases hlt:k < g.vs.length
 ·have hd:=qG g.vs k hlt
  have hw:=qN k (by omega)
  have hbad:badV g k=numb (g.vs.getD k 0) (g.vs.getD (k - 1) 0) (decide (k=0)):=rfl
  have hnext:badV g k=0→∀ j,j < k+1→badV g j=0:=fun hb j hj=>by
   rcases Nat.lt_or_ge j k with h | h
   ·exact hno j h
   ·obtain rfl:j=k:=by omega
    exact hb
  have hret:∀ v,badV g k=v→v≠0→chk g=v:=fun v h0 h1=>by
   have hf:=firstNZ_eq hlt hno h0 h1
   rw [hch,hf,if_pos h1]
  generalize hx:g.vs.getD k 0=x at *
  by_cases hx1:x < 1
  ·have hr:=hret 2 (by rw [hbad];unfold numb;rw [if_pos (.inl hx1)]) (by decide)
   (repeat' (first | refine qS ?_ | refine qB ?_ | (refine qK ?_;simp only [ak,reduceIte]) | (refine qR ?_;simp only [ak,reduceIte];simp [f1,f18,f19,f20,hlt,hd,hw,hx1,hr]) | (refine qC ?_;simp [f1,f18,f19,f20,hlt,hd,hw,hx1,hr]) | (refine w_e [] ?_;intro J hJ;simp only [];simp [f1,f18,f19,f20,hlt,hd,hw,hx1,hr];(refine hJ _ _ ?_;clear hJ J;simp only [ak,reduceIte]))))
   exact Keeps.new _ _
  by_cases hx2:1048576 < x
  ·have hr:=hret 2 (by rw [hbad];unfold numb;rw [if_pos (.inr hx2)]) (by decide)
   (repeat' (first | refine qS ?_ | refine qB ?_ | (refine qK ?_;simp only [ak,reduceIte]) | (refine qR ?_;simp only [ak,reduceIte];simp [f1,f18,f19,f20,hlt,hd,hw,hx1,hx2,hr]) | (refine qC ?_;simp [f1,f18,f19,f20,hlt,hd,hw,hx1,hx2,hr]) | (refine w_e [] ?_;intro J hJ;simp only [];simp [f1,f18,f19,f20,hlt,hd,hw,hx1,hx2,hr];(refine hJ _ _ ?_;clear hJ J;simp only [ak,reduceIte]))))
   exact Keeps.new _ _
  by_cases h0:k=0
  ·have hb:badV g k=0:=by rw [hbad];unfold numb;rw [if_neg (by simp [hx1,hx2])];simp [h0]
   have hk0:¬ 0 < k:=by omega
   (repeat' (first | refine qS ?_ | refine qB ?_ | (refine qK ?_;simp only [ak,reduceIte]) | (refine qC ?_;simp [f1,f18,f19,f20,hlt,hd,hw,hx1,hx2,hk0]) | (refine w_e [] ?_;intro J hJ;simp only [];simp [f1,f18,f19,f20,hlt,hd,hw,hx1,hx2,hk0];(refine hJ _ _ ?_;clear hJ J;simp only [ak,reduceIte]))))
   refine hJJ _ _ _ ?_ ⟨k+1,by omega,rfl,by simp [f1],by simp [f18],by simp [f19],by simp,rfl,hnext hb⟩
   omega
  ·have hk0:0 < k:=by omega
   have hw1:IntKind.i64.wrap ((k:Int) - 1)=((k - 1:Nat):Int):=by rw [wrap_i64 _ (by omega) (by omega)];omega
   have hd1:=qG g.vs (k - 1) (by omega)
   have hlt1:k - 1 < g.vs.length:=by omega
   generalize hy:g.vs.getD (k - 1) 0=y at *
   by_cases hle:x≤y
   ·have hr:=hret 19 (by rw [hbad];unfold numb;rw [if_neg (by simp [hx1,hx2]),if_pos ⟨by simp [h0],hle⟩]) (by decide)
    (repeat' (first | refine qS ?_ | refine qB ?_ | (refine qK ?_;simp only [ak,reduceIte]) | (refine qR ?_;simp only [ak,reduceIte];simp [f1,f18,f19,f20,hlt,hd,hw,hx1,hx2,hk0,hw1,hd1,hlt1,hle,hr]) | (refine qC ?_;simp [f1,f18,f19,f20,hlt,hd,hw,hx1,hx2,hk0,hw1,hd1,hlt1,hle,hr]) | (refine w_e [] ?_;intro J hJ;simp only [];simp [f1,f18,f19,f20,hlt,hd,hw,hx1,hx2,hk0,hw1,hd1,hlt1,hle,hr];(refine hJ _ _ ?_;clear hJ J;simp only [ak,reduceIte]))))
    exact Keeps.new _ _
   ·have hb:badV g k=0:=by rw [hbad];unfold numb;rw [if_neg (by simp [hx1,hx2]),if_neg (by simp [hle])]
    (repeat' (first | refine qS ?_ | refine qB ?_ | (refine qK ?_;simp only [ak,reduceIte]) | (refine qC ?_;simp [f1,f18,f19,f20,hlt,hd,hw,hx1,hx2,hk0,hw1,hd1,hlt1,hle]) | (refine w_e [] ?_;intro J hJ;simp only [];simp [f1,f18,f19,f20,hlt,hd,hw,hx1,hx2,hk0,hw1,hd1,hlt1,hle];(refine hJ _ _ ?_;clear hJ J;simp only [ak,reduceIte]))))
    refine hJJ _ _ _ ?_ ⟨k+1,by omega,rfl,by simp [f1],by simp [f18],by simp [f19],by simp,rfl,hnext hb⟩
    omega
 have hk':k=g.vs.length:=by omega
 have hz:firstNZ (badV g) g.vs.length=0:=firstNZ_zero (fun j hj=>hno j (by omega))
 rw [hz] at hch
 simp only [ne_eq,not_true_eq_false,if_false] at hch
 clear hJJ hno hz
 have hel:=eds_length g.es
 (repeat' (first | refine qS ?_ | refine qB ?_ | (refine qX ?_;simp only [ak,reduceIte]) | (refine qC ?_;simp [f1,f18,f19,f20,hlt]) | (refine w_e [] ?_;intro J hJ;simp only [];simp [f1,f18,f19,f20,hlt];(refine hJ _ _ ?_;clear hJ J;simp only [ak,reduceIte]))))
 refine qL (fun n fr st'=>∃ k:Nat,k≤g.es.length∧n=g.es.length - k∧fr 1=.pt st.next 0∧fr 45=.sl 0 g.es.length (eds g.es)∧fr 46=i g.es.length∧fr 47=i k∧Keeps (st.new (.box 25 2 (grL g))) st'∧∀ j,j < k→badE g j=0) g.es.length ?_ ?_
 ·exact ⟨0,by omega,by omega,by simp [f1],by simp,by simp,by simp,Keeps.refl _,fun j h=>by omega⟩
 clear f1 f18 f19 f20 hlt hk' hk fr k
 rintro n fr st1 ⟨k,hk,rfl,f1,f45,f46,f47,hkp,hno⟩ JJ hJJ
 have hgH:st1.H st.next=.box 25 2 (grL g):=by rw [hkp.H _ (by simp)];simp
 have hnx:¬ st.next=st1.next:=by have:=hkp.next;simp only [new_next] at this;omega
 have hkp0:=(Keeps.new st (.box 25 2 (grL g))).trans hkp
 by_cases hlt:k < g.es.length
 ·have hd:=eds_drop g.es k hlt
  have hw:=qN k (by omega)
  have hk3:k * 3 < g.es.length * 3:=by omega
  have hbad:badE g k=(let x:=g.es.getD k ed0;let n:=numb x.id (g.es.getD (k - 1) ed0).id (decide (k=0));if n≠0 then n else if x.a=x.b then 20 else if x.a∉g.vs∨x.b∉g.vs then 21 else 0):=rfl
  have hnext:badE g k=0→∀ j,j < k+1→badE g j=0:=fun hb j hj=>by
   rcases Nat.lt_or_ge j k with h | h
   ·exact hno j h
   ·obtain rfl:j=k:=by omega
    exact hb
  have hret:∀ v,badE g k=v→v≠0→chk g=v:=fun v h0 h1=>by
   rw [hch];exact firstNZ_eq hlt hno h0 h1
  generalize hx:g.es.getD k ed0=x at *
  obtain ⟨xi,xa,xb⟩:=x
  simp only at hd hbad
  have hkn:=hkp0.trans (Keeps.new _ (.box 31 3 [u xi,u xa,u xb]))
  by_cases hx1:xi < 1
  ·have hn:numb xi (g.es.getD (k - 1) ed0).id (decide (k=0))=2:=by unfold numb;rw [if_pos (.inl hx1)]
   have hr:=hret 2 (by rw [hbad,hn];rfl) (by decide)
   (repeat' (first | refine qS ?_ | refine qB ?_ | (refine qK ?_;simp only [ak,reduceIte]) | (refine qR ?_;simp only [ak,reduceIte];simp [f1,f45,f46,f47,hlt,hd,hw,hel,hk3,hgH,hnx,hx1,hr]) | (refine qC ?_;simp [f1,f45,f46,f47,hlt,hd,hw,hel,hk3,hgH,hnx,hx1,hr]) | (refine w_e [] ?_;intro J hJ;simp only [];simp [f1,f45,f46,f47,hlt,hd,hw,hel,hk3,hgH,hnx,hx1,hr];(refine hJ _ _ ?_;clear hJ J;simp only [ak,reduceIte]))))
   exact hkn
  by_cases hx2:1048576 < xi
  ·have hn:numb xi (g.es.getD (k - 1) ed0).id (decide (k=0))=2:=by unfold numb;rw [if_pos (.inr hx2)]
   have hr:=hret 2 (by rw [hbad,hn];rfl) (by decide)
   (repeat' (first | refine qS ?_ | refine qB ?_ | (refine qK ?_;simp only [ak,reduceIte]) | (refine qR ?_;simp only [ak,reduceIte];simp [f1,f45,f46,f47,hlt,hd,hw,hel,hk3,hgH,hnx,hx1,hx2,hr]) | (refine qC ?_;simp [f1,f45,f46,f47,hlt,hd,hw,hel,hk3,hgH,hnx,hx1,hx2,hr]) | (refine w_e [] ?_;intro J hJ;simp only [];simp [f1,f45,f46,f47,hlt,hd,hw,hel,hk3,hgH,hnx,hx1,hx2,hr];(refine hJ _ _ ?_;clear hJ J;simp only [ak,reduceIte]))))
   exact hkn
  by_cases hnb:numb xi (g.es.getD (k - 1) ed0).id (decide (k=0))=0
  rotate_left
  ·
   have h0:k≠0:=by rintro rfl;apply hnb;unfold numb;rw [if_neg (by simp [hx1,hx2])];simp
   have hle:xi≤(g.es.getD (k - 1) ed0).id:=by
    unfold numb at hnb
    rw [if_neg (by simp [hx1,hx2])] at hnb
    by_cases h:decide (k=0)=false∧xi≤(g.es.getD (k - 1) ed0).id
    ·exact h.2
    ·rw [if_neg h] at hnb;exact absurd rfl hnb
   have hn:numb xi (g.es.getD (k - 1) ed0).id (decide (k=0))=19:=by unfold numb;rw [if_neg (by simp [hx1,hx2]),if_pos ⟨by simp [h0],hle⟩]
   have hr:=hret 19 (by rw [hbad,hn];rfl) (by decide)
   have hk0:0 < k:=by omega
   have hw1:IntKind.i64.wrap ((k:Int) - 1)=((k - 1:Nat):Int):=by rw [wrap_i64 _ (by omega) (by omega)];omega
   have hd1:=eds_drop g.es (k - 1) (by omega)
   have hlt1:k - 1 < g.es.length:=by omega
   have hlt3:(k - 1) * 3 < g.es.length * 3:=by omega
   generalize hy:g.es.getD (k - 1) ed0=y at *
   obtain ⟨yi,ya,yb⟩:=y
   simp only at hd1 hle
   (repeat' (first | refine qS ?_ | refine qB ?_ | (refine qK ?_;simp only [ak,reduceIte]) | (refine qR ?_;simp only [ak,reduceIte];simp [f1,f45,f46,f47,hlt,hd,hw,hel,hk3,hgH,hnx,hx1,hx2,hk0,hw1,hd1,hlt1,hlt3,hle,hr]) | (refine qC ?_;simp [f1,f45,f46,f47,hlt,hd,hw,hel,hk3,hgH,hnx,hx1,hx2,hk0,hw1,hd1,hlt1,hlt3,hle,hr]) | ((first | (refine w_e [] ?_;intro J hJ;simp only []) | (refine w_q ?_;intro J hJ));simp [f1,f45,f46,f47,hlt,hd,hw,hel,hk3,hgH,hnx,hx1,hx2,hk0,hw1,hd1,hlt1,hlt3,hle,hr];(refine hJ _ _ ?_;clear hJ J;simp only [ak,reduceIte]))))
   exact hkn
  rw [if_neg (fun h=>h hnb)] at hbad
  by_cases hab:xa=xb
  ·have hr:=hret 20 (by rw [hbad,if_pos hab]) (by decide)
   by_cases h0:k=0
   ·have hk0:¬ 0 < k:=by omega
    (repeat' (first | refine qS ?_ | refine qB ?_ | (refine qK ?_;simp only [ak,reduceIte]) | (refine qR ?_;simp only [ak,reduceIte];simp [f1,f45,f46,f47,hlt,hd,hw,hel,hk3,hgH,hnx,hx1,hx2,hk0,hab,hr]) | (refine qC ?_;simp [f1,f45,f46,f47,hlt,hd,hw,hel,hk3,hgH,hnx,hx1,hx2,hk0,hab,hr]) | ((first | (refine w_e [] ?_;intro J hJ;simp only []) | (refine w_q ?_;intro J hJ));simp [f1,f45,f46,f47,hlt,hd,hw,hel,hk3,hgH,hnx,hx1,hx2,hk0,hab,hr];(refine hJ _ _ ?_;clear hJ J;simp only [ak,reduceIte]))))
    exact hkp0.trans (Keeps.new _ _)
   ·have hk0:0 < k:=by omega
    have hw1:IntKind.i64.wrap ((k:Int) - 1)=((k - 1:Nat):Int):=by rw [wrap_i64 _ (by omega) (by omega)];omega
    have hd1:=eds_drop g.es (k - 1) (by omega)
    have hlt1:k - 1 < g.es.length:=by omega
    have hlt3:(k - 1) * 3 < g.es.length * 3:=by omega
    have hle:¬ xi≤(g.es.getD (k - 1) ed0).id:=by
     intro h
     unfold numb at hnb
     rw [if_neg (by simp [hx1,hx2]),if_pos ⟨by simp [h0],h⟩] at hnb
     cases hnb
    generalize hy:g.es.getD (k - 1) ed0=y at *
    obtain ⟨yi,ya,yb⟩:=y
    simp only at hd1 hle
    (repeat' (first | refine qS ?_ | refine qB ?_ | (refine qK ?_;simp only [ak,reduceIte]) | (refine qR ?_;simp only [ak,reduceIte];simp [f1,f45,f46,f47,hlt,hd,hw,hel,hk3,hgH,hnx,hx1,hx2,hk0,hw1,hd1,hlt1,hlt3,hle,hab,hr]) | (refine qC ?_;simp [f1,f45,f46,f47,hlt,hd,hw,hel,hk3,hgH,hnx,hx1,hx2,hk0,hw1,hd1,hlt1,hlt3,hle,hab,hr]) | ((first | (refine w_e [] ?_;intro J hJ;simp only []) | (refine w_q ?_;intro J hJ));simp [f1,f45,f46,f47,hlt,hd,hw,hel,hk3,hgH,hnx,hx1,hx2,hk0,hw1,hd1,hlt1,hlt3,hle,hab,hr];(refine hJ _ _ ?_;clear hJ J;simp only [ak,reduceIte]))))
    exact hkp0.trans (Keeps.new _ _)
  rw [if_neg hab] at hbad
  by_cases h0:k=0
  ·have hk0:¬ 0 < k:=by omega
   (repeat' (first | refine qS ?_ | refine qB ?_ | (refine qK ?_;simp only [ak,reduceIte]) | (refine qC ?_;simp [f1,f45,f46,f47,hlt,hd,hw,hel,hk3,hgH,hnx,hx1,hx2,hk0,hab]) | ((first | (refine w_e [] ?_;intro J hJ;simp only []) | (refine w_q ?_;intro J hJ));simp [f1,f45,f46,f47,hlt,hd,hw,hel,hk3,hgH,hnx,hx1,hx2,hk0,hab];(try (refine hJ _ _ ?_;clear hJ J;simp only [ak,reduceIte])))))
   refine qE (Has g xa _ hsm) (by simp []) ?_;rintro r st' ⟨rfl,hk1⟩
   have hB1:st'.H st1.next=.box 31 3 [u xi,u xa,u xb]:=by rw [hk1.H _ (by simp)];simp
   have hgH1:st'.H st.next=.box 25 2 (grL g):=by
    rw [hk1.H _ (by have:=hkp.next;simp only [new_next] at this ⊢;omega),new_H,if_neg hnx];exact hgH
   have hkp1:=(hkp.trans (Keeps.new _ _)).trans hk1
   have hkp01:=(hkp0.trans (Keeps.new _ _)).trans hk1
   by_cases hma:xa∈g.vs
   rotate_left
   ·have hr:=hret 21 (by rw [hbad,if_pos (.inl hma)]) (by decide)
    (repeat' (first | refine qS ?_ | (refine qR ?_;simp only [ak,reduceIte];simp [f1,hB1,hgH1,hr,hma]) | (refine qC ?_;simp [f1,hB1,hgH1,hr,hma]) | ((first | (refine w_e [] ?_;intro J hJ;simp only []) | (refine e_go ?_));simp [f1,hB1,hgH1,hr,hma];(refine hJ _ _ ?_;clear hJ J;simp only [ak,reduceIte]))))
    exact hkp01
   (refine e_go ?_;simp [f1,hB1,hgH1,hma])
   refine qE (Has g xb _ hsm) (by simp []) ?_;rintro r st' ⟨rfl,hk2⟩
   by_cases hmb:xb∈g.vs
   rotate_left
   ·have hr:=hret 21 (by rw [hbad,if_pos (.inr hmb)]) (by decide)
    (repeat' (first | refine qS ?_ | (refine qR ?_;simp only [ak,reduceIte];simp [hr,hmb]) | (refine qC ?_;simp [hr,hmb]) | ((first | (refine w_e [] ?_;intro J hJ;simp only []) | (refine e_go ?_));simp [hr,hmb];(refine hJ _ _ ?_;clear hJ J;simp only [ak,reduceIte]))))
    exact hkp01.trans hk2
   have hb':badE g k=0:=by rw [hbad,if_neg (by simp [hma,hmb])]
   (repeat' (first | (refine qK ?_;simp only [ak,reduceIte]) | (refine qC ?_;simp [f47,hw,hmb]) | ((first | (refine w_e [] ?_;intro J hJ;simp only []) | (refine e_go ?_));simp [f47,hw,hmb];(refine hJ _ _ ?_;clear hJ J;simp only [ak,reduceIte]))))
   refine hJJ _ _ _ ?_ ⟨k+1,by omega,rfl,by simp [f1],by simp [f45],by simp [f46],by simp,hkp1.trans hk2,hnext hb'⟩
   omega
  ·have hk0:0 < k:=by omega
   have hw1:IntKind.i64.wrap ((k:Int) - 1)=((k - 1:Nat):Int):=by rw [wrap_i64 _ (by omega) (by omega)];omega
   have hd1:=eds_drop g.es (k - 1) (by omega)
   have hlt1:k - 1 < g.es.length:=by omega
   have hlt3:(k - 1) * 3 < g.es.length * 3:=by omega
   have hle:¬ xi≤(g.es.getD (k - 1) ed0).id:=by
    intro h
    unfold numb at hnb
    rw [if_neg (by simp [hx1,hx2]),if_pos ⟨by simp [h0],h⟩] at hnb
    cases hnb
   generalize hy:g.es.getD (k - 1) ed0=y at *
   obtain ⟨yi,ya,yb⟩:=y
   simp only at hd1 hle
   (repeat' (first | refine qS ?_ | refine qB ?_ | (refine qK ?_;simp only [ak,reduceIte]) | (refine qC ?_;simp [f1,f45,f46,f47,hlt,hd,hw,hel,hk3,hgH,hnx,hx1,hx2,hk0,hw1,hd1,hlt1,hlt3,hle,hab]) | ((first | (refine w_e [] ?_;intro J hJ;simp only []) | (refine w_q ?_;intro J hJ));simp [f1,f45,f46,f47,hlt,hd,hw,hel,hk3,hgH,hnx,hx1,hx2,hk0,hw1,hd1,hlt1,hlt3,hle,hab];(try (refine hJ _ _ ?_;clear hJ J;simp only [ak,reduceIte])))))
   refine qE (Has g xa _ hsm) (by simp []) ?_;rintro r st' ⟨rfl,hk1⟩
   have hB1:st'.H st1.next=.box 31 3 [u xi,u xa,u xb]:=by rw [hk1.H _ (by simp)];simp
   have hgH1:st'.H st.next=.box 25 2 (grL g):=by
    rw [hk1.H _ (by have:=hkp.next;simp only [new_next] at this ⊢;omega),new_H,if_neg hnx];exact hgH
   have hkp1:=(hkp.trans (Keeps.new _ _)).trans hk1
   have hkp01:=(hkp0.trans (Keeps.new _ _)).trans hk1
   by_cases hma:xa∈g.vs
   rotate_left
   ·have hr:=hret 21 (by rw [hbad,if_pos (.inl hma)]) (by decide)
    (repeat' (first | refine qS ?_ | (refine qR ?_;simp only [ak,reduceIte];simp [f1,hB1,hgH1,hr,hma]) | (refine qC ?_;simp [f1,hB1,hgH1,hr,hma]) | ((first | (refine w_e [] ?_;intro J hJ;simp only []) | (refine e_go ?_));simp [f1,hB1,hgH1,hr,hma];(refine hJ _ _ ?_;clear hJ J;simp only [ak,reduceIte]))))
    exact hkp01
   (refine e_go ?_;simp [f1,hB1,hgH1,hma])
   refine qE (Has g xb _ hsm) (by simp []) ?_;rintro r st' ⟨rfl,hk2⟩
   by_cases hmb:xb∈g.vs
   rotate_left
   ·have hr:=hret 21 (by rw [hbad,if_pos (.inr hmb)]) (by decide)
    (repeat' (first | refine qS ?_ | (refine qR ?_;simp only [ak,reduceIte];simp [hr,hmb]) | (refine qC ?_;simp [hr,hmb]) | ((first | (refine w_e [] ?_;intro J hJ;simp only []) | (refine e_go ?_));simp [hr,hmb];(refine hJ _ _ ?_;clear hJ J;simp only [ak,reduceIte]))))
    exact hkp01.trans hk2
   have hb':badE g k=0:=by rw [hbad,if_neg (by simp [hma,hmb])]
   (repeat' (first | (refine qK ?_;simp only [ak,reduceIte]) | (refine qC ?_;simp [f47,hw,hmb]) | ((first | (refine w_e [] ?_;intro J hJ;simp only []) | (refine e_go ?_));simp [f47,hw,hmb];(refine hJ _ _ ?_;clear hJ J;simp only [ak,reduceIte]))))
   refine hJJ _ _ _ ?_ ⟨k+1,by omega,rfl,by simp [f1],by simp [f45],by simp [f46],by simp,hkp1.trans hk2,hnext hb'⟩
   omega
 ·have hr:chk g=0:=by rw [hch];exact firstNZ_zero (fun j hj=>hno j (by omega))
  clear hJJ
  (repeat' (first | refine qS ?_ | (refine qX ?_;simp only [ak,reduceIte]) | (refine qR ?_;simp only [ak,reduceIte];simp [f1,f45,f46,f47,hlt,hr]) | (refine qC ?_;simp [f1,f45,f46,f47,hlt,hr]) | (refine w_e [] ?_;intro J hJ;simp only [];simp [f1,f45,f46,f47,hlt,hr];(refine hJ _ _ ?_;clear hJ J;simp only [ak,reduceIte]))))
  exact hkp0
theorem eds_one (l:List Ed):(eds l).all oneL=true:=by
 induction l with
 | nil=>rfl
 | cons e l ih=>simp only [eds,List.flatMap_cons,List.all_append,ih,Bool.and_true];rfl
theorem eds_get (a b:List Ed) (hab:a.length=b.length) (h:∀ j,j < a.length→a.getD j ed0=b.getD j ed0):a=b:=by
 apply List.ext_getElem hab
 intro j h1 h2
 have:=h j h1
 rw [List.getD_eq_getElem?_getD,List.getD_eq_getElem?_getD,List.getElem?_eq_getElem h1,List.getElem?_eq_getElem h2] at this
 exact this
theorem ints_get (a b:List Int) (hab:a.length=b.length) (h:∀ j,j < a.length→a.getD j 0=b.getD j 0):a=b:=by
 apply List.ext_getElem hab
 intro j h1 h2
 have:=h j h1
 rw [getD_lt _ _ h1,getD_lt _ _ h2] at this
 exact this
theorem ref_SameG (a b:Gr) (st:St) (hv:a.vs.length≤1048576) (he:a.es.length≤1048576):
 ACalls Tryz.prog 40 [.ag (grL a),.ag (grL b)] st fun r st'=>r=bb (decide (a=b))∧Keeps st st':=by
 have hkk:Keeps st ((st.new (.box 25 2 (grL a))).new (.box 25 2 (grL b))):=(Keeps.new _ _).trans (Keeps.new _ _)
 refine qO tabOk Tryz.func40 rfl rfl Tryz.ntmps40 (rs:=[.tmp 4]) rfl (by simp) ?_
 by_cases h1:a.vs.length=b.vs.length
 rotate_left
 ·have h1':((a.vs.length:Int) != b.vs.length)=true:=by simp;omega
  have hne:¬ a=b:=fun h=>h1 (by rw [h])
  (repeat' (first | refine qS ?_ | (refine qR ?_;simp only [ak,reduceIte];simp [h1',hne]) | (refine qC ?_;simp [h1',hne]) | (refine w_e [] ?_;intro J hJ;simp only [];simp [h1',hne];(refine hJ _ _ ?_;clear hJ J;simp only [ak,reduceIte]))))
  exact hkk
 have h1':((a.vs.length:Int) != b.vs.length)=false:=by simp;omega
 by_cases h2:a.es.length=b.es.length
 rotate_left
 ·have h2':((a.es.length:Int) != b.es.length)=true:=by simp;omega
  have hne:¬ a=b:=fun h=>h2 (by rw [h])
  (repeat' (first | refine qS ?_ | (refine qR ?_;simp only [ak,reduceIte];simp [h1',h2',hne]) | (refine qC ?_;simp [h1',h2',hne]) | (refine w_e [] ?_;intro J hJ;simp only [];simp [h1',h2',hne];(refine hJ _ _ ?_;clear hJ J;simp only [ak,reduceIte]))))
  exact hkk
 have h2':((a.es.length:Int) != b.es.length)=false:=by simp;omega
 (repeat' (first | refine qS ?_ | refine qB ?_ | (refine qK ?_;simp only [ak,reduceIte]) | (refine qC ?_;simp [h1',h2']) | (refine w_e [] ?_;intro J hJ;simp only [];simp [h1',h2'];(refine hJ _ _ ?_;clear hJ J;simp only [ak,reduceIte]))))
 refine qL (fun n fr st'=>∃ k:Nat,k≤a.vs.length∧n=a.vs.length - k∧fr 2=.pt st.next 0∧fr 3=.pt (st.next+1) 0∧fr 25=i a.vs.length∧fr 26=i k∧st'=(st.new (.box 25 2 (grL a))).new (.box 25 2 (grL b))∧∀ j,j < k→a.vs.getD j 0=b.vs.getD j 0) a.vs.length ?_ ?_
 ·exact ⟨0,by omega,by omega,by simp,by simp,by simp,by simp,rfl,fun j h=>by omega⟩
 rintro n fr st' ⟨k,hk,rfl,f2,f3,f25,f26,rfl,hno⟩ JJ hJJ
 by_cases hlt:k < a.vs.length
 ·have hd:=qG a.vs k hlt
  have hlt':k < b.vs.length:=by omega
  have hd':=qG b.vs k hlt'
  have hw:=qN k (by omega)
  generalize hx:a.vs.getD k 0=x at *
  generalize hy:b.vs.getD k 0=y at *
  by_cases hxy:x=y
  ·(repeat' (first | refine qS ?_ | refine qB ?_ | (refine qK ?_;simp only [ak,reduceIte]) | (refine qC ?_;simp [f2,f3,f25,f26,hlt,hlt',hd,hd',hw,hxy]) | ((first | (refine w_e [] ?_;intro J hJ;simp only []) | (refine w_q ?_;intro J hJ));simp [f2,f3,f25,f26,hlt,hlt',hd,hd',hw,hxy];(refine hJ _ _ ?_;clear hJ J;simp only [ak,reduceIte]))))
   refine hJJ _ _ _ ?_ ⟨k+1,by omega,rfl,by simp [f2],by simp [f3],by simp [f25],by simp,rfl,fun j hj=>?_⟩
   ·omega
   ·rcases Nat.lt_or_ge j k with h | h
    ·exact hno j h
    ·obtain rfl:j=k:=by omega
     rw [hx,hy];exact hxy
  ·have hne:¬ a=b:=fun h=>hxy (by rw [← hx,← hy,h])
   (repeat' (first | refine qS ?_ | refine qB ?_ | (refine qK ?_;simp only [ak,reduceIte]) | (refine qR ?_;simp only [ak,reduceIte];simp [f2,f3,f25,f26,hlt,hlt',hd,hd',hw,hxy,hne]) | (refine qC ?_;simp [f2,f3,f25,f26,hlt,hlt',hd,hd',hw,hxy,hne]) | ((first | (refine w_e [] ?_;intro J hJ;simp only []) | (refine w_q ?_;intro J hJ));simp [f2,f3,f25,f26,hlt,hlt',hd,hd',hw,hxy,hne];(refine hJ _ _ ?_;clear hJ J;simp only [ak,reduceIte]))))
   exact hkk
 have hvs:=ints_get a.vs b.vs h1 (fun j hj=>hno j (by omega))
 clear hJJ hno
 have hela:=eds_length a.es
 have helb:=eds_length b.es
 (repeat' (first | refine qS ?_ | refine qB ?_ | (refine qX ?_;simp only [ak,reduceIte]) | (refine qC ?_;simp [f2,f3,f25,f26,hlt]) | (refine w_e [] ?_;intro J hJ;simp only [];simp [f2,f3,f25,f26,hlt];(refine hJ _ _ ?_;clear hJ J;simp only [ak,reduceIte]))))
 refine qL (fun n fr st'=>∃ k:Nat,k≤a.es.length∧n=a.es.length - k∧fr 2=.pt st.next 0∧fr 3=.pt (st.next+1) 0∧fr 43=i a.es.length∧fr 44=i k∧st'=(st.new (.box 25 2 (grL a))).new (.box 25 2 (grL b))∧∀ j,j < k→a.es.getD j ed0=b.es.getD j ed0) a.es.length ?_ ?_
 ·exact ⟨0,by omega,by omega,by simp [f2],by simp [f3],by simp,by simp,rfl,fun j h=>by omega⟩
 clear f2 f3 f25 f26 hlt hk fr k
 rintro n fr st' ⟨k,hk,rfl,f2,f3,f43,f44,rfl,hno⟩ JJ hJJ
 by_cases hlt:k < a.es.length
 ·have hd:=eds_drop a.es k hlt
  have hlt':k < b.es.length:=by omega
  have hd':=eds_drop b.es k hlt'
  have hw:=qN k (by omega)
  have hk3:k * 3 < a.es.length * 3:=by omega
  have hk3':k * 3 < b.es.length * 3:=by omega
  generalize hx:a.es.getD k ed0=x at *
  generalize hy:b.es.getD k ed0=y at *
  obtain ⟨x1,x2,x3⟩:=x
  obtain ⟨y1,y2,y3⟩:=y
  simp only at hd hd'
  by_cases hxy:([x1,x2,x3]==[y1,y2,y3])=true
  ·have hxy':([x1,x2,x3]:List Int)=[y1,y2,y3]:=by simpa using hxy
   injection hxy' with e1 e2;injection e2 with e2 e3;injection e3 with e3 _
   subst e1 e2 e3
   (repeat' (first | refine qS ?_ | refine qB ?_ | (refine qK ?_;simp only [ak,reduceIte]) | (refine qC ?_;simp [f2,f3,f43,f44,hlt,hlt',hd,hd',hw,hela,helb,hk3,hk3']) | ((first | (refine w_e [] ?_;intro J hJ;simp only []) | (refine w_q ?_;intro J hJ));simp [f2,f3,f43,f44,hlt,hlt',hd,hd',hw,hela,helb,hk3,hk3'];(refine hJ _ _ ?_;clear hJ J;simp only [ak,reduceIte]))))
   refine hJJ _ _ _ ?_ ⟨k+1,by omega,rfl,by simp [f2],by simp [f3],by simp [f43],by simp,rfl,fun j hj=>?_⟩
   ·omega
   ·rcases Nat.lt_or_ge j k with h | h
    ·exact hno j h
    ·obtain rfl:j=k:=by omega
     rw [hx,hy]
  ·have hne:¬ a=b:=fun h=>hxy (by rw [h] at hx;rw [hx] at hy;injection hy with e1 e2 e3;subst e1 e2 e3;simp)
   have hxyf:([x1,x2,x3]==[y1,y2,y3])=false:=by simpa using hxy
   (repeat' (first | refine qS ?_ | refine qB ?_ | (refine qK ?_;simp only [ak,reduceIte]) | (refine qR ?_;simp only [ak,reduceIte];simp [f2,f3,f43,f44,hlt,hlt',hd,hd',hw,hela,helb,hk3,hk3',hxyf,hne]) | (refine qC ?_;simp [f2,f3,f43,f44,hlt,hlt',hd,hd',hw,hela,helb,hk3,hk3',hxyf,hne]) | ((first | (refine w_e [] ?_;intro J hJ;simp only []) | (refine w_q ?_;intro J hJ));simp [f2,f3,f43,f44,hlt,hlt',hd,hd',hw,hela,helb,hk3,hk3',hxyf,hne];(refine hJ _ _ ?_;clear hJ J;simp only [ak,reduceIte]))))
   exact hkk
 ·have hes:=eds_get a.es b.es h2 (fun j hj=>hno j (by omega))
  have heq:a=b:=by cases a;cases b;simp only at hvs hes;subst hvs hes;rfl
  clear hJJ
  subst heq
  (repeat' (first | refine qS ?_ | (refine qX ?_;simp only [ak,reduceIte]) | (refine qR ?_;simp only [ak,reduceIte];simp [f2,f3,f43,f44,hlt]) | (refine qC ?_;simp [f2,f3,f43,f44,hlt]) | (refine w_e [] ?_;intro J hJ;simp only [];simp [f2,f3,f43,f44,hlt];(refine hJ _ _ ?_;clear hJ J;simp only [ak,reduceIte]))))
  exact hkk
end Go.Proofs.YtglkgindpjdoiaaGreat.Aw
