/- The library's sort: Len, nextPowerOfTwo, breakPatterns. -/
import Derived.Test.YtkcokoefodgigaaGreatJa
import Derived.Test.YtkcokoefodgigaaGreatAwTd
namespace Go.Proofs.YtkcokoefodgigaaGreat.Aw
open Go Go.RowKit Go.Proofs.YtkcokoefodgigaaGreat.Pl
set_option linter.unusedSimpArgs false
set_option linter.unusedVariables false
abbrev uw (n:Int):LV:=.atom (.int .u64 n)
def lenTab (m:Nat):Nat:=if m=0 then 0 else Nat.log2 m+1
def blen (n:Nat):Nat:=if 256≤n then 8+lenTab (n / 256) else lenTab n
theorem wrap_u64 (n:Int) (h1:0≤n) (h2:n < 18446744073709551616):IntKind.u64.wrap n=n:=by
 simp [IntKind.wrap,IntKind.signed,IntKind.bits];omega
theorem wrap_u8 (n:Int) (h1:0≤n) (h2:n < 256):IntKind.u8.wrap n=n:=by
 simp [IntKind.wrap,IntKind.signed,IntKind.bits];omega
abbrev lenStr:ByteArray:={ data:=((List.append [0,1,2,2,3,3,3,3,4,4,4,4,4,4,4,4,5,5,5,5,5,5,5,5,5,5,5,5,5,5,5,5,6,6,6,6,6,6,6,6,6,6,6,6,6,6,6,6,6,6,6,6,6,6,6,6,6,6,6,6,6,6,6,6] [7,7,7,7,7,7,7,7,7,7,7,7,7,7,7,7,7,7,7,7,7,7,7,7,7,7,7,7,7,7,7,7,7,7,7,7,7,7,7,7,7,7,7,7,7,7,7,7,7,7,7,7,7,7,7,7,7,7,7,7,7,7,7,7]).append (List.append [8,8,8,8,8,8,8,8,8,8,8,8,8,8,8,8,8,8,8,8,8,8,8,8,8,8,8,8,8,8,8,8,8,8,8,8,8,8,8,8,8,8,8,8,8,8,8,8,8,8,8,8,8,8,8,8,8,8,8,8,8,8,8,8] [8,8,8,8,8,8,8,8,8,8,8,8,8,8,8,8,8,8,8,8,8,8,8,8,8,8,8,8,8,8,8,8,8,8,8,8,8,8,8,8,8,8,8,8,8,8,8,8,8,8,8,8,8,8,8,8,8,8,8,8,8,8,8,8])).toArray }
theorem lenStr_at:∀ m:Fin 256,((lenStr[m.val]?).isSome=true∧((lenStr[m.val]?).getD 0).toNat=lenTab m.val):=by decide +kernel
theorem lenTab_at:∀ m:Fin 256,lenTab m.val≤8∧(0 < m.val→m.val < 2 ^ lenTab m.val∧2 ^ lenTab m.val≤2 * m.val):=by decide +kernel
theorem blen_at (n:Nat) (hn:n < 65536):blen n≤16∧(0 < n→n < 2 ^ blen n∧2 ^ blen n≤2 * n):=by
 unfold blen
 by_cases h:256≤n
 ·rw [if_pos h]
  have h1:=lenTab_at ⟨n / 256,by omega⟩
  simp only at h1
  obtain ⟨h2,h3⟩:=h1.2 (by omega)
  refine ⟨by omega,fun _=>?_⟩
  rw [Nat.pow_add]
  generalize 2 ^ lenTab (n / 256)=e at *
  omega
 ·rw [if_neg h]
  have h1:=lenTab_at ⟨n,by omega⟩
  simp only at h1
  exact ⟨by omega,h1.2⟩
theorem Len64 (n:Nat) (st:St) (hn:n < 65536):ACalls Tryz.prog 57 [uw n] st fun r st'=>r=i (blen n)∧st'=st:=by
 refine qO tabOk Tryz.func57 rfl rfl Tryz.ntmps57 (rs:=[.tmp 2]) rfl (by simp) ?_
 have h1:¬ (4294967296:Int)≤(n:Int):=by omega
 have h2:¬ (65536:Int)≤(n:Int):=by omega
 have hs:∀ m,m < 256→(lenStr[m]?).isSome=true∧((lenStr[m]?).getD 0).toNat=lenTab m:=fun m h=>lenStr_at ⟨m,h⟩
 generalize hq:({ data:=((List.append [0,1,2,2,3,3,3,3,4,4,4,4,4,4,4,4,5,5,5,5,5,5,5,5,5,5,5,5,5,5,5,5,6,6,6,6,6,6,6,6,6,6,6,6,6,6,6,6,6,6,6,6,6,6,6,6,6,6,6,6,6,6,6,6] [7,7,7,7,7,7,7,7,7,7,7,7,7,7,7,7,7,7,7,7,7,7,7,7,7,7,7,7,7,7,7,7,7,7,7,7,7,7,7,7,7,7,7,7,7,7,7,7,7,7,7,7,7,7,7,7,7,7,7,7,7,7,7,7]).append (List.append [8,8,8,8,8,8,8,8,8,8,8,8,8,8,8,8,8,8,8,8,8,8,8,8,8,8,8,8,8,8,8,8,8,8,8,8,8,8,8,8,8,8,8,8,8,8,8,8,8,8,8,8,8,8,8,8,8,8,8,8,8,8,8,8] [8,8,8,8,8,8,8,8,8,8,8,8,8,8,8,8,8,8,8,8,8,8,8,8,8,8,8,8,8,8,8,8,8,8,8,8,8,8,8,8,8,8,8,8,8,8,8,8,8,8,8,8,8,8,8,8,8,8,8,8,8,8,8,8])).toArray }:ByteArray)=s
 rw [show lenStr=s from hq] at hs
 clear hq
 by_cases h3:(256:Int)≤(n:Int)
 ·obtain ⟨m,hm⟩:∃ m,m=n / 256:=⟨_,rfl⟩
  have w1:(n:Int).fdiv (2 ^ min 8 IntKind.u64.bits)=(m:Int):=by
   show (n:Int).fdiv 256=(m:Int)
   rw [Int.fdiv_eq_ediv_of_nonneg _ (by omega)];omega
  have w2:=wrap_u8 m (by omega) (by omega)
  have hb:blen n=8+lenTab m:=by unfold blen;rw [if_pos (by omega),hm]
  have h4:lenTab m≤8:=(lenTab_at ⟨m,by omega⟩).1
  have hm2:=hs m (by omega)
  have hz:m < s.size:=by simpa using hm2.1
  have hv:=hm2.2
  rw [hb]
  generalize lenTab m=e at *
  have w3:IntKind.i64.wrap (8+(e:Int))=((8+e:Nat):Int):=by rw [wrap_i64 _ (by omega) (by omega)];omega
  have w4:IntKind.i64.wrap (e:Int)=(e:Int):=by rw [wrap_i64 _ (by omega) (by omega)]
  have w5:IntKind.i64.wrap (8:Int)=8:=rfl
  simp [hz] at hv
  (repeat' (first | refine qS ?_ | (refine qK ?_;simp only [ak,reduceIte]) | (refine qR ?_;simp only [ak,reduceIte];simp [h1,h2,h3,gshr,w1,w2,hz,hv,w3,w4,w5]) | (refine qC ?_;simp [h1,h2,h3,gshr,w1,w2,hz,hv,w3,w4,w5]) | (refine w_e [] ?_;intro J hJ;simp only [];simp [h1,h2,h3,gshr,w1,w2,hz,hv,w3,w4,w5];(refine hJ _ _ ?_;clear hJ J;simp only [ak,reduceIte]))))
 ·have w2:=wrap_u8 n (by omega) (by omega)
  have hb:blen n=lenTab n:=by unfold blen;rw [if_neg (by omega)]
  have h4:lenTab n≤8:=(lenTab_at ⟨n,by omega⟩).1
  have hm2:=hs n (by omega)
  have hz:n < s.size:=by simpa using hm2.1
  have hv:=hm2.2
  rw [hb]
  generalize lenTab n=e at *
  have w4:IntKind.i64.wrap (e:Int)=(e:Int):=by rw [wrap_i64 _ (by omega) (by omega)]
  simp [hz] at hv
  (repeat' (first | refine qS ?_ | (refine qK ?_;simp only [ak,reduceIte]) | (refine qR ?_;simp only [ak,reduceIte];simp [h1,h2,h3,w2,hz,hv,w4]) | (refine qC ?_;simp [h1,h2,h3,w2,hz,hv,w4]) | (refine w_e [] ?_;intro J hJ;simp only [];simp [h1,h2,h3,w2,hz,hv,w4];(refine hJ _ _ ?_;clear hJ J;simp only [ak,reduceIte]))))
theorem Len (n:Nat) (st:St) (hn:n < 65536):ACalls Tryz.prog 29 [uw n] st fun r st'=>r=i (blen n)∧st'=st:=by
 refine qO tabOk Tryz.func29 rfl rfl Tryz.ntmps29 (rs:=[.tmp 2]) rfl (by simp) ?_
 (repeat' (first | refine qS ?_ | (refine qK ?_;simp only [ak,reduceIte]) | (refine qC ?_;simp []) | (refine w_e [] ?_;intro J hJ;simp only [];simp [];(try (refine hJ _ _ ?_;clear hJ J;simp only [ak,reduceIte])))))
 refine qF (Len64 n _ hn) ?_;rintro r st' ⟨rfl,rfl⟩
 (repeat' (first | (refine qR ?_;simp only [ak,reduceIte];simp []) | (refine e_go ?_;simp [];(refine hJ _ _ ?_;clear hJ J;simp only [ak,reduceIte]))))
theorem nextPowerOfTwo (n:Nat) (st:St) (hn:n < 65536):ACalls Tryz.prog 76 [i n] st fun r st'=>r=uw ((2 ^ blen n:Nat):Int)∧st'=st:=by
 have h1:=(blen_at n hn).1
 have w1:IntKind.u64.wrap (n:Int)=(n:Int):=wrap_u64 _ (by omega) (by omega)
 have w2:gshl .u64 1 (blen n)=((2 ^ blen n:Nat):Int):=by
  unfold gshl
  have h2:(2:Nat) ^ blen n≤2 ^ 16:=Nat.pow_le_pow_right (by omega) h1
  have h3:min ((blen n:Int).toNat) IntKind.u64.bits=blen n:=by simp [IntKind.bits];omega
  rw [h3,Int.one_mul]
  rw [show ((2:Int) ^ blen n)=((2 ^ blen n:Nat):Int) by simp]
  generalize (2:Nat) ^ blen n=z at *
  exact wrap_u64 _ (by omega) (by omega)
 refine qO tabOk Tryz.func76 rfl rfl Tryz.ntmps76 (rs:=[.tmp 2]) rfl (by simp) ?_
 (repeat' (first | refine qS ?_ | (refine w_e [] ?_;intro J hJ;simp only [];simp [w1];(try (refine hJ _ _ ?_;clear hJ J;simp only [ak,reduceIte])))))
 refine qF (Len n _ hn) ?_;rintro r st' ⟨rfl,rfl⟩
 generalize ((2 ^ blen n:Nat):Int)=e2 at *
 (repeat' (first | (refine qR ?_;simp only [ak,reduceIte];simp [w2]) | (refine e_go ?_;simp [w2];(refine hJ _ _ ?_;clear hJ J;simp only [ak,reduceIte]))))
abbrev xx (st:St) (p:Nat) (s:Int):St:=st.set p (.box 100 1 [uw s])
theorem xNext (p:Nat) (s:Int) (st:St) (hp:st.H p=.box 100 1 [uw s]):ACalls Tryz.prog 77 [.pt p 0] st fun r st'=>∃ s',r=uw s'∧st'=xx st p s':=by
 refine qO tabOk Tryz.func77 rfl rfl Tryz.ntmps77 (rs:=[.tmp 2]) rfl (by simp) ?_
 (repeat (refine qS ?_));(refine w_e [] ?_;intro J hJ;simp only [];simp [];(refine hJ _ _ ?_;clear hJ J;simp only [ak,reduceIte]))
 (repeat (refine qS ?_));(refine w_s [] [p] [(0,true),(1,true),(2,true),(3,true),(4,true),(5,true),(6,true),(7,true),(8,true),(9,false)] ?_;intro J hJ;simp [hp];(refine hJ _ _ ?_;clear hJ J;simp only [ak,reduceIte]))
 generalize gxor _ _ _=s1
 (repeat (refine qS ?_));(refine w_s [] [p] [(0,true),(1,true),(2,true),(3,true),(4,true),(5,true),(6,true),(7,true),(8,true),(9,false)] ?_;intro J hJ;simp [hp];(refine hJ _ _ ?_;clear hJ J;simp only [ak,reduceIte]))
 generalize gxor _ _ _=s2
 (repeat (refine qS ?_));(refine w_s [] [p] [(0,true),(1,true),(2,true),(3,true),(4,true),(5,true),(6,true),(7,true),(8,true),(9,false)] ?_;intro J hJ;simp [hp];(refine hJ _ _ ?_;clear hJ J;simp only [ak,reduceIte]))
 generalize gxor _ _ _=s3
 (repeat' (first | refine qS ?_ | (refine qR ?_;simp only [ak,reduceIte];simp []) | (refine w_e [] ?_;intro J hJ;simp only [];simp [];(refine hJ _ _ ?_;clear hJ J;simp only [ak,reduceIte]))))
 rw [St.set_set,St.set_set]
theorem gand_lt (s:Int) (m:Nat) (h0:0 < m) (hm:m≤131072):∃ o:Nat,o < m∧gand .u64 s (((m - 1:Nat)):Int)=(o:Int):=by
 unfold gand
 generalize hx:BitVec.ofInt IntKind.u64.bits s=x
 have h1:(BitVec.ofInt IntKind.u64.bits ((m - 1:Nat):Int)).toNat=m - 1:=by
  rw [BitVec.ofInt_natCast,BitVec.toNat_ofNat]
  show (m - 1) % 2 ^ 64=m - 1
  exact Nat.mod_eq_of_lt (by omega)
 refine ⟨(x &&& BitVec.ofInt IntKind.u64.bits ((m - 1:Nat):Int)).toNat,?_,?_⟩
 ·have h2:(x &&& BitVec.ofInt IntKind.u64.bits ((m - 1:Nat):Int)).toNat≤(BitVec.ofInt IntKind.u64.bits ((m - 1:Nat):Int)).toNat:=by
   rw [BitVec.toNat_and];exact Nat.and_le_right
  omega
 ·have h2:(x &&& BitVec.ofInt IntKind.u64.bits ((m - 1:Nat):Int)).toNat≤(BitVec.ofInt IntKind.u64.bits ((m - 1:Nat):Int)).toNat:=by
   rw [BitVec.toNat_and];exact Nat.and_le_right
  exact wrap_u64 _ (by omega) (by omega)
def OffS (q:Nat) (st st':St):Prop:=st.next≤st'.next∧∀ l,l≠q→l < st.next→st'.H l=st.H l
theorem OffS.refl (q:Nat) (st:St):OffS q st st:=⟨Nat.le_refl _,fun _ _ _=>rfl⟩
theorem OffS.trans {q:Nat} {a b c:St} (h:OffS q a b) (k:OffS q b c):OffS q a c:=⟨Nat.le_trans h.1 k.1,fun l hl hn=>(k.2 l hl (Nat.lt_of_lt_of_le hn h.1)).trans (h.2 l hl hn)⟩
theorem OffS.keeps {q:Nat} {a b c:St} (h:OffS q a b) (k:Keeps b c):OffS q a c:=⟨Nat.le_trans h.1 k.next,fun l hl hn=>(k.H l (Nat.lt_of_lt_of_le hn h.1)).trans (h.2 l hl hn)⟩
theorem OffS.set {q:Nat} {a b:St} (h:OffS q a b) (o:LObj):OffS q a (b.set q o):=⟨h.1,fun l hl hn=>by rw [set_H,if_neg hl];exact h.2 l hl hn⟩
theorem OffS.set' {q p:Nat} {a b:St} (h:OffS q a b) (hp:a.next≤p) (o:LObj):OffS q a (b.set p o):=⟨h.1,fun l hl hn=>by rw [set_H,if_neg (by omega)];exact h.2 l hl hn⟩
def BrkI (q p a b n m k:Nat) (l:List Int) (st:St) (fr:Frm) (st2:St):Prop:=fr 0=.ms q 0 l.length∧fr 1=i a∧fr 6=i n∧fr 7=.pt p 0∧fr 8=uw m∧fr 9=i k∧p < st2.next∧OffS q st st2∧(∃ s,st2.H p=.box 100 1 [uw s])∧∃ c,st2.H q=.box 32 1 (us c)∧Pm a b l c
def BrkJ (q p a b n m k:Nat) (l:List Int) (st:St) (fr:Frm) (st2:St):Prop:=BrkI q p a b n m k l st fr st2∧∃ o:Nat,o < n∧fr 10=i o
set_option maxHeartbeats 1000000 in
theorem breakPatterns (l:List Int) (q a b:Nat) (st:St) (hl:l.length < 65536) (hab:a+8≤b) (hb:b≤l.length) (hqn:q < st.next) (hH:st.H q=.box 32 1 (us l)):
 ACalls Tryz.prog 62 [.ms q 0 l.length,i a,i b] st fun r st'=>∃ c,st'.H q=.box 32 1 (us c)∧Pm a b l c∧OffS q st st':=by
 obtain ⟨n,hn⟩:∃ n:Nat,n=b - a:=⟨_,rfl⟩
 obtain ⟨n4,hn4⟩:∃ m:Nat,m=n / 4:=⟨_,rfl⟩
 obtain ⟨k0,hk0⟩:∃ m:Nat,m=a+n4 * 2:=⟨_,rfl⟩
 have w1:IntKind.i64.wrap ((b:Int) - (a:Int))=(n:Int):=by rw [wrap_i64 _ (by omega) (by omega)];omega
 have w2:IntKind.i64.wrap ((n:Int) / 4)=(n4:Int):=by
  rw [show (n:Int) / 4=((n / 4:Nat):Int) from rfl,← hn4]
  exact wrap_i64 _ (by omega) (by omega)
 have w4:IntKind.i64.wrap ((n4:Int) * 2)=((n4 * 2:Nat):Int):=by rw [wrap_i64 _ (by omega) (by omega)];omega
 have w7:IntKind.i64.wrap ((a:Int)+((n4 * 2:Nat):Int))=(k0:Int):=by rw [wrap_i64 _ (by omega) (by omega)];omega
 have w8:=nat_sub_one k0 (by omega) (by omega)
 obtain ⟨k1,hk1⟩:∃ m:Nat,m=k0+1:=⟨_,rfl⟩
 have w9:IntKind.i64.wrap ((k0:Int)+1)=(k1:Int):=by rw [qN k0 (by omega),hk1]
 have w10:IntKind.u64.wrap (n:Int)=(n:Int):=wrap_u64 _ (by omega) (by omega)
 have h8:(8:Int)≤(n:Int):=by omega
 have hbl:=(blen_at n (by omega)).2 (by omega)
 obtain ⟨m,hm⟩:∃ m:Nat,m=2 ^ blen n:=⟨_,rfl⟩
 rw [← hm] at hbl
 have w11:IntKind.u64.wrap ((m:Int) - 1)=((m - 1:Nat):Int):=by rw [wrap_u64 _ (by omega) (by omega)];omega
 generalize ((n4 * 2:Nat):Int)=e2 at *
 refine qO tabOk Tryz.func62 rfl rfl Tryz.ntmps62 (rs:=[]) rfl (by simp) ?_
 (repeat' (first | refine qS ?_ | (refine w_e [] ?_;intro J hJ;simp only [];simp [w1];(refine hJ _ _ ?_;clear hJ J;simp only [ak,reduceIte]))))
 refine qC ?_;simp [h8]
 (repeat' (first | refine qS ?_ | (refine w_e [] ?_;intro J hJ;simp only [];simp [w10,w1];(try (refine hJ _ _ ?_;clear hJ J;simp only [ak,reduceIte])))))
 refine qF (nextPowerOfTwo n _ (by omega)) ?_;rintro r st' ⟨rfl,rfl⟩
 rw [← hm]
 (repeat' (first | refine qS ?_ | refine qB ?_ | ((first | (refine w_e [] ?_;intro J hJ;simp only []) | (refine e_go ?_));simp [w2,w4,w7,w8];(refine hJ _ _ ?_;clear hJ J;simp only [ak,reduceIte]))))
 refine qL (fun z fr st2=>∃ k:Nat,k0≤k+1∧k≤k0+2∧z=k0+2 - k∧BrkI q st.next a b n m k l st fr st2) 3 ?_ ?_
 ·refine ⟨k0 - 1,by omega,by omega,by omega,?_⟩
  unfold BrkI
  have hne:¬ q=st.next:=by omega
  refine ⟨by simp,by simp,by simp,by simp,by simp,by simp,by simp,?_,⟨n,by simp⟩,l,by simp [hne,hH],.refl⟩
  exact ((OffS.refl q st).keeps (Keeps.new _ _)).set' (Nat.le_refl _) _
 rintro z fr st2 ⟨k,hkl,hku,rfl,f0,f1,f6,f7,f8,f9,hpn,hof,⟨s,hs⟩,c,hcq,hpm⟩ JJ hJJ
 have hcl:=hpm.len
 by_cases hlt:(k:Int)≤(k1:Int)
 rotate_left
 ·clear hJJ
  (repeat' (first | refine qS ?_ | (refine qX ?_;simp only [ak,reduceIte]) | (refine qC ?_;simp [f1,f6,f9,w2,w4,w7,w9,hlt]) | (refine w_e [] ?_;intro J hJ;simp only [];simp [f1,f6,f9,w2,w4,w7,w9,hlt];(refine hJ _ _ ?_;clear hJ J;simp only [ak,reduceIte]))))
  exact ⟨trivial,c,hcq,hpm,hof⟩
 (repeat (refine qS ?_));(refine w_e [] ?_;intro J hJ;simp only [];simp [f1,f6,f9,w2,w4,w7,w9,hlt];(refine hJ _ _ ?_;clear hJ J;simp only [ak,reduceIte]))
 refine qC ?_;simp [hlt]
 refine qK ?_;simp only [ak,reduceIte]
 refine qS ?_
 refine qB ?_
 refine qS ?_
 (refine w_e [] ?_;intro J hJ;simp only [];simp [f7])
 refine qF (xNext st.next s _ hs) ?_;rintro r st' ⟨s1,rfl,rfl⟩
 obtain ⟨o,ho,hgo⟩:=gand_lt s1 m (by omega) (by omega)
 have w12:IntKind.i64.wrap (o:Int)=(o:Int):=wrap_i64 _ (by omega) (by omega)
 (refine e_go ?_;simp [f8,w11,hgo,w12];(refine hJ _ _ ?_;clear hJ J;simp only [ak,reduceIte]))
 refine qS ?_
 refine awp_cut1 (BrkJ q st.next a b n m k l st) ?_ ?_
 ·have hqne:¬ q=st.next:=by omega
  have hI:∀ fr2:Frm,fr2 0=fr 0→fr2 1=fr 1→fr2 6=fr 6→fr2 7=fr 7→fr2 8=fr 8→fr2 9=fr 9→BrkI q st.next a b n m k l st fr2 (xx st2 st.next s1):=by
   intro fr2 g0 g1 g6 g7 g8 g9
   exact ⟨by rw [g0,f0],by rw [g1,f1],by rw [g6,f6],by rw [g7,f7],by rw [g8,f8],by rw [g9,f9],by simpa using hpn,hof.set' (Nat.le_refl _) _,⟨s1,by simp⟩,c,by simp [hqne,hcq],hpm⟩
  by_cases hge:(n:Int)≤(o:Int)
  ·have w13:IntKind.i64.wrap ((o:Int) - (n:Int))=((o - n:Nat):Int):=by rw [wrap_i64 _ (by omega) (by omega)];omega
   (repeat' (first | refine qS ?_ | (refine qC ?_;simp [f6,hge,w13]) | (refine w_e [] ?_;intro J hJ;simp only [];simp [f6,hge,w13];(refine hJ _ _ ?_;clear hJ J;simp only [ak,reduceIte]))))
   refine ⟨by trivial,?_⟩
   exact ⟨hI _ (by simp) (by simp) (by simp) (by simp) (by simp) (by simp),o - n,by omega,by simp⟩
  ·(repeat' (first | refine qS ?_ | (refine qK ?_;simp only [ak,reduceIte]) | (refine qC ?_;simp [f6,hge]) | (refine w_e [] ?_;intro J hJ;simp only [];simp [f6,hge];(refine hJ _ _ ?_;clear hJ J;simp only [ak,reduceIte]))))
   refine ⟨by trivial,?_⟩
   exact ⟨hI _ (by simp) (by simp) (by simp) (by simp) (by simp) (by simp),o,by omega,by simp⟩
 clear f0 f1 f6 f7 f8 f9 hpn hof hs hcq hpm hcl hgo w12 ho o s s1 c st2 fr
 rintro fr st2 ⟨⟨f0,f1,f6,f7,f8,f9,hpn,hof,⟨s,hs⟩,c,hcq,hpm⟩,o,ho,f10⟩
 have hcl:=hpm.len
 obtain ⟨x,hx⟩:∃ x:Nat,x=a+o:=⟨_,rfl⟩
 have w12:IntKind.i64.wrap ((a:Int)+(o:Int))=(x:Int):=by rw [wrap_i64 _ (by omega) (by omega)];omega
 have w13:=qN k (by omega)
 have hd1:=qG c k (by omega)
 have hd2:=qG c x (by omega)
 have hl3:k < l.length:=by omega
 have hl4:x < l.length:=by omega
 have hsw:=fun v y=>bx_sw' st2 q c k x (x:=v) (y:=y) (by omega) (by omega)
 have hpm2:=hpm.step k x (by omega) (by omega) (by omega) (by omega) (by omega)
 generalize hv:c.getD k 0=v at *
 generalize hy:c.getD x 0=y at *
 have hsw':=hsw v y rfl rfl
 (refine w_s [] [q] [(0,true),(1,true),(2,true),(3,true),(4,true),(5,true),(6,true),(7,true),(8,true),(9,true),(10,true),(11,true),(12,true),(13,true),(14,true),(15,true),(16,true),(17,false),(18,true),(19,false)] ?_;intro J hJ;simp [f0,f1,f9,f10,w12,hl3,hl4,hcl,hcq,hd1,hd2];(repeat refine ca ?_);(refine hJ _ _ ?_;clear hJ J;simp only [ak,reduceIte]))
 (repeat' (refine w_e [] ?_;intro J hJ;simp only [];simp [f9,w13];(refine hJ _ _ ?_;clear hJ J;simp only [ak,reduceIte])))
 have hqne:¬ st.next=q:=by omega
 rw [hsw']
 exact hJJ (k0+2 - (k+1)) _ _ (by omega) ⟨k+1,by omega,by omega,rfl,by simp [f0],by simp [f1],by simp [f6],by simp [f7],by simp [f8],by simp,by simpa using hpn,hof.set _,⟨s,by simp [hqne,hs]⟩,_,by simp,hpm2⟩
theorem Srt.out {a m:Nat} {c d:List Int} (h:Srt a m c) (e:∀ j,a≤j→j < m→d.getD j 0=c.getD j 0):Srt a m d:=by
 intro p q h1 h2 h3
 rw [e p h1 (by omega),e q (by omega) h3];exact h p q h1 h2 h3
theorem _root_.Go.Proofs.YtkcokoefodgigaaGreat.Pl.PartedAt.pmL {c d:List Int} {a m b:Nat} (h:PartedAt c a m b) (k:Pm a m c d):PartedAt d a m b:=by
 unfold PartedAt at h ⊢
 have e:d.getD m 0=c.getD m 0:=k.out m (by omega)
 rw [e]
 refine ⟨fun p h1 h2=>k.all (fun v=>decide (v < c.getD m 0)=true) h.1 p h1 h2,fun p h1 h2=>?_⟩
 rw [k.out p (by omega)];exact h.2 p h1 h2
theorem _root_.Go.Proofs.YtkcokoefodgigaaGreat.Pl.PartedAt.pmR {c d:List Int} {a m b:Nat} (h:PartedAt c a m b) (k:Pm (m+1) b c d):PartedAt d a m b:=by
 unfold PartedAt at h ⊢
 have e:d.getD m 0=c.getD m 0:=k.out m (by omega)
 rw [e]
 refine ⟨fun p h1 h2=>?_,fun p h1 h2=>k.all (fun v=>decide (v < c.getD m 0)=false) (fun j g1 g2=>h.2 j (by omega) g2) p (by omega) h2⟩
 rw [k.out p (by omega)];exact h.1 p h1 h2
theorem _root_.Go.Proofs.YtkcokoefodgigaaGreat.Pl.PartedAt.glue {d:List Int} {a m b:Nat} (h:PartedAt d a m b) (h1:Srt a m d) (h2:Srt (m+1) b d):Srt a b d:=by
 refine srt_glue h1 h2 (fun p g1 g2=>?_) fun q g1 g2=>?_
 ·have:=h.1 p g1 g2;simp only [decide_eq_true_eq] at this;omega
 ·have:=h.2 q g1 g2;simp only [decide_eq_false_iff_not] at this;omega
theorem _root_.Go.Proofs.YtkcokoefodgigaaGreat.Pl.PartedAt.aheadR {d:List Int} {a m b:Nat} (h:PartedAt d a m b):Ahead d (m+1) b:=by
 intro _ j g1 g2
 have:=h.2 j (by omega) g2;simp only [decide_eq_false_iff_not] at this
 rw [Nat.add_sub_cancel];omega
theorem Ahead.less {d:List Int} {a m b:Nat} (h:Ahead d a b) (hm:m≤b):Ahead d a m:=fun h0 j g1 g2=>h h0 j g1 (by omega)
theorem eq_glue {c d:List Int} {a m b:Nat} {x:Int} (h:PartedEq c a m b x) (hlow:∀ j,a≤j→j < m→x≤c.getD j 0) (k:Pm m b c d) (hs:Srt m b d):Srt a b d:=by
 intro p q h1 h2 h3
 by_cases hq:q < m
 ·rw [k.out p (by omega),k.out q (by omega)]
  have:=h.1 p h1 (by omega);have:=hlow q (by omega) hq;omega
 ·by_cases hp:p < m
  ·rw [k.out p (by omega)]
   have g:=h.1 p h1 hp
   have:x < d.getD q 0:=k.all (fun v=>x < v) h.2 q (by omega) h3
   omega
  ·exact hs p q (by omega) h2 h3
def Fin9 (a b a' b':Nat) (c:List Int):Prop:=∀ d,Pm a' b' c d→Srt a' b' d→Srt a b d
theorem Fin9.pm {a b a' b':Nat} {c d:List Int} (h:Fin9 a b a' b' c) (k:Pm a' b' c d):Fin9 a b a' b' d:=fun e h1 h2=>h e (k.trans h1) h2
theorem awp_cutR {P:Program} {N:Nat} {Q:AQ} {k:List AItem} {fr:Frm} {st:St} {x y:Code} (I:Frm→St→Prop) (h1:AWp P N x (AK P N (fun e f s=>(e=.normal∧I f s)∨(e=.ret∧AK P N Q k .ret f s)) []) fr st) (h2:∀ fr st,I fr st→AWp P N y (AK P N Q k) fr st):
 AWp P N x (AK P N Q (.code y::k)) fr st:=by
 refine awp_mono h1 ?_
 rintro e fr' st' (⟨rfl,hI⟩ | ⟨rfl,hI⟩)
 ·rw [ak_code]
  exact h2 _ _ hI
 ·rw [ak_code_ret]
  exact hI
theorem awp_cutX {P:Program} {N:Nat} {Q:AQ} {k:List AItem} {fr:Frm} {st:St} {x y:Code} (I:Frm→St→Prop) (h1:AWp P N x (AK P N (fun e f s=>(e=.normal∧I f s)∨(e≠.normal∧AK P N Q k e f s)) []) fr st) (h2:∀ fr st,I fr st→AWp P N y (AK P N Q k) fr st):
 AWp P N x (AK P N Q (.code y::k)) fr st:=by
 refine awp_mono h1 ?_
 rintro e fr' st' (⟨rfl,hI⟩ | ⟨hne,hI⟩)
 ·rw [ak_code]
  exact h2 _ _ hI
 ·cases e<;>first | exact absurd rfl hne | exact hI
def PdI (q:Nat) (l:List Int) (st:St) (a b a' b':Nat) (wb wp:Bool) (lim n:Nat) (fr:Frm) (st2:St):Prop:=
 fr 0=.ms q 0 l.length∧fr 1=i a'∧fr 2=i b'∧fr 3=i lim∧fr 8=bb wb∧fr 9=bb wp∧fr 10=i n∧lim < 1000000∧q < st2.next∧OffS q st st2∧∃ c,st2.H q=.box 32 1 (us c)∧Pm a b l c∧Ahead c a' b'∧Fin9 a b a' b' c
theorem PdI.mk {q:Nat} {l:List Int} {st:St} {a b a' b':Nat} {wb wp:Bool} {lim n:Nat} {fr:Frm} {st2:St} {c:List Int} (f0:fr 0=.ms q 0 l.length) (f1:fr 1=i a') (f2:fr 2=i b') (f3:fr 3=i lim) (f8:fr 8=bb wb) (f9:fr 9=bb wp) (f10:fr 10=i n) (hlm:lim < 1000000) (hqn:q < st2.next) (ho:OffS q st st2) (hc:st2.H q=.box 32 1 (us c)) (hp:Pm a b l c) (ha:Ahead c a' b') (hf:Fin9 a b a' b' c):PdI q l st a b a' b' wb wp lim n fr st2:=
 ⟨f0,f1,f2,f3,f8,f9,f10,hlm,hqn,ho,c,hc,hp,ha,hf⟩
def PdJ (q:Nat) (l:List Int) (st:St) (a b a' b':Nat) (wb wp:Bool) (n:Nat) (fr:Frm) (st2:St):Prop:=∃ lim,PdI q l st a b a' b' wb wp lim n fr st2
def PdK (q:Nat) (l:List Int) (st:St) (a b a' b':Nat) (wb wp:Bool) (n:Nat) (fr:Frm) (st2:St):Prop:=∃ lim,PdI q l st a b a' b' wb wp lim n fr st2∧∃ (pv:Nat) (h:Int),a'≤pv∧pv < b'∧fr 11=i pv∧fr 12=i h
set_option maxHeartbeats 4000000 in
theorem pdqsort_upto (Z:Nat):∀ (l:List Int) (q a b lim:Nat) (st:St),l.length < 65536→a≤b→b≤l.length→b - a < Z→Ahead l a b→lim < 1000000→q < st.next→st.H q=.box 32 1 (us l)→
 ACalls Tryz.prog 41 [.ms q 0 l.length,i a,i b,i lim] st fun r st'=>∃ c,st'.H q=.box 32 1 (us c)∧Pm a b l c∧Srt a b c∧OffS q st st':=by
 induction Z with
 | zero=>intro l q a b lim st _ _ _ h;omega
 | succ Z ih=>
 intro l q a b lim st hl hab hb hZ hah hlim hqn hH
 have hsm:small l:=by unfold small;omega
 refine qO tabOk Tryz.func41 rfl rfl Tryz.ntmps41 (rs:=[]) rfl (by simp) ?_
 (repeat' (first | refine qS ?_ | refine qB ?_ | (refine w_e [] ?_;intro J hJ;simp only [];simp [];(refine hJ _ _ ?_;clear hJ J;simp only [ak,reduceIte]))))
 refine qL (fun z fr st2=>∃ (a' b' lim:Nat) (wb wp:Bool) (n:LV),a≤a'∧a'≤b'∧b'≤b∧z=b' - a'∧PdI q l st a b a' b' wb wp lim 0 (upd fr 10 (i (0:Nat))) st2) (b - a) ?_ ?_
 ·refine ⟨a,b,lim,true,true,.nil,by omega,by omega,by omega,rfl,?_⟩
  exact PdI.mk (by simp) (by simp) (by simp) (by simp) (by simp) (by simp) (by simp) hlim hqn (.refl _ _) hH .refl hah fun d h1 h2=>h2
 rintro z fr st2 ⟨a',b',lim,wb,wp,-,ha1,ha2,hb2,rfl,f0,f1,f2,f3,f8,f9,-,hlm,hqn2,hof,c,hc,hpm,hah2,hfin⟩ JJ hJJ
 rw [upd_at,if_neg (by omega)] at f0 f1 f2 f3 f8 f9
 have hcl:=hpm.len
 have hsc:small c:=by unfold small;omega
 obtain ⟨n,hn⟩:∃ n:Nat,n=b' - a':=⟨_,rfl⟩
 have w1:IntKind.i64.wrap ((b':Int) - (a':Int))=(n:Int):=by rw [wrap_i64 _ (by omega) (by omega)];omega
 refine qB ?_
 (repeat' (first | refine qS ?_ | (refine w_e [] ?_;intro J hJ;simp only [];simp [f1,f2,w1];(refine hJ _ _ ?_;clear hJ J;simp only [ak,reduceIte]))))
 by_cases hn12:(n:Int)≤12
 ·clear hJJ
  refine qC ?_;simp [hn12]
  (repeat' (first | refine qS ?_ | (refine w_e [] ?_;intro J hJ;simp only [];simp [f0,f1,f2])))
  refine qE (insertionSort c q a' b' st2 hsc (by omega) (by omega) hc) (by simp [f0,f1,f2,hcl]) ?_;rintro r st' ⟨d,rfl,k1,k2⟩
  (repeat' (first | (refine qR ?_;simp only [ak,reduceIte];simp []) | (refine e_go ?_;simp [];(refine hJ _ _ ?_;clear hJ J;simp only [ak,reduceIte]))))
  exact ⟨d,rfl,hpm.trans (k1.wide (by omega) (by omega) (by omega)),hfin d k1 k2,hof.set _⟩
 refine qC ?_;simp [hn12]
 (repeat' (first | refine qS ?_ | (refine qK ?_;simp only [ak,reduceIte]) | (refine w_e [] ?_;intro J hJ;simp only [];simp [f3];(refine hJ _ _ ?_;clear hJ J;simp only [ak,reduceIte]))))
 by_cases hl0:lim=0
 ·clear hJJ
  refine qC ?_;simp [hl0]
  (repeat' (first | refine qS ?_ | (refine w_e [] ?_;intro J hJ;simp only [];simp [f0,f1,f2])))
  refine qE (heapSort c q a' b' st2 hsc (by omega) (by omega) hc) (by simp [f0,f1,f2,hcl]) ?_;rintro r st' ⟨d,rfl,k1,k2⟩
  (repeat' (first | (refine qR ?_;simp only [ak,reduceIte];simp []) | (refine e_go ?_;simp [];(refine hJ _ _ ?_;clear hJ J;simp only [ak,reduceIte]))))
  exact ⟨d,rfl,hpm.trans (k1.wide (by omega) (by omega) (by omega)),hfin d k1 k2,hof.set _⟩
 refine qC ?_;simp [hl0]
 refine qK ?_;simp only [ak,reduceIte]
 refine qS ?_
 refine awp_cut1 (PdJ q l st a b a' b' wb wp n) ?_ ?_
 ·clear hJJ
  cases wb
  ·(repeat' (first | refine qS ?_ | (refine qC ?_;simp [f0,f1,f2,f8]) | (refine w_e [] ?_;intro J hJ;simp only [];simp [f0,f1,f2,f8];(try (refine hJ _ _ ?_;clear hJ J;simp only [ak,reduceIte])))))
   refine qE (breakPatterns c q a' b' st2 (by omega) (by omega) (by omega) hqn2 hc) (by simp [f0,f1,f2,hcl]) ?_;rintro r st' ⟨d,k0,k1,k2⟩
   have w2:=nat_sub_one lim (by omega) (by omega)
   (repeat' ((first | (refine w_e [] ?_;intro J hJ;simp only []) | (refine e_go ?_));simp [f3,w2];(refine hJ _ _ ?_;clear hJ J;simp only [ak,reduceIte])))
   refine ⟨by trivial,?_⟩
   exact ⟨lim - 1,PdI.mk (by simp [f0]) (by simp [f1]) (by simp [f2]) (by simp) (by simp [f8]) (by simp [f9]) (by simp) (by omega) (Nat.lt_of_lt_of_le hqn2 k2.1) (hof.trans k2) k0 (hpm.trans (k1.wide (by omega) (by omega) (by omega))) (hah2.pm k1) (hfin.pm k1)⟩
  ·(repeat' (first | refine qS ?_ | (refine qK ?_;simp only [ak,reduceIte]) | (refine qC ?_;simp [f8]) | (refine w_e [] ?_;intro J hJ;simp only [];simp [f8];(refine hJ _ _ ?_;clear hJ J;simp only [ak,reduceIte]))))
   refine ⟨by trivial,?_⟩
   exact ⟨lim,PdI.mk (by simp [f0]) (by simp [f1]) (by simp [f2]) (by simp [f3]) (by simp [f8]) (by simp [f9]) (by simp) (by omega) hqn2 hof hc hpm hah2 hfin⟩
 clear f0 f1 f2 f3 f8 f9 hlm hqn2 hof hc hpm hah2 hfin hcl hsc c st2 fr hl0 lim
 rintro fr st2 ⟨lim,f0,f1,f2,f3,f8,f9,f10,hlm,hqn2,hof,c,hc,hpm,hah2,hfin⟩
 have hcl:=hpm.len
 have hsc:small c:=by unfold small;omega
 refine qS ?_
 (refine w_e [] ?_;intro J hJ;simp only [];simp [f0,f1,f2])
 refine qE (choosePivot c q a' b' st2 hsc (by omega) (by omega) hqn2 hc) (by simp [f0,f1,f2,hcl]) ?_;rintro r st' ⟨pv,h,rfl,hp1,hp2,k0⟩
 have hc':st'.H q=.box 32 1 (us c):=by rw [k0.H q hqn2];exact hc
 have hqn3:q < st'.next:=Nat.lt_of_lt_of_le hqn2 k0.next
 have hof2:=hof.keeps k0
 clear hc hqn2 hof k0
 (refine e_go ?_;simp [];(refine hJ _ _ ?_;clear hJ J;simp only [ak,reduceIte]))
 refine qS ?_
 refine awp_cut1 (PdK q l st a b a' b' wb wp n) ?_ ?_
 ·clear hJJ
  by_cases hh:h=2
  ·(repeat' (first | refine qS ?_ | (refine qC ?_;simp [hh,f0,f1,f2]) | (refine w_e [] ?_;intro J hJ;simp only [];simp [hh,f0,f1,f2];(try (refine hJ _ _ ?_;clear hJ J;simp only [ak,reduceIte])))))
   refine qE (reverseRange c q a' b' st' hsc (by omega) (by omega) (by omega) hc') (by simp [f0,f1,f2,hcl]) ?_;rintro r st' ⟨d,rfl,k1⟩
   have w2:=nat_sub_one b' (by omega) (by omega)
   obtain ⟨x1,hx1⟩:∃ x,x=b' - 1:=⟨_,rfl⟩
   obtain ⟨x2,hx2⟩:∃ x,x=pv - a':=⟨_,rfl⟩
   obtain ⟨x3,hx3⟩:∃ x,x=x1 - x2:=⟨_,rfl⟩
   have w3:IntKind.i64.wrap ((pv:Int) - (a':Int))=(x2:Int):=by rw [wrap_i64 _ (by omega) (by omega)];omega
   have w4:IntKind.i64.wrap ((x1:Int) - (x2:Int))=(x3:Int):=by rw [wrap_i64 _ (by omega) (by omega)];omega
   rw [← hx1] at w2
   (repeat' (first | refine qS ?_ | ((first | (refine w_e [] ?_;intro J hJ;simp only []) | (refine e_go ?_));simp [f1,f2,w2,w3,w4];(refine hJ _ _ ?_;clear hJ J;simp only [ak,reduceIte]))))
   refine ⟨by trivial,?_⟩
   exact ⟨lim,PdI.mk (by simp [f0]) (by simp [f1]) (by simp [f2]) (by simp [f3]) (by simp [f8]) (by simp [f9]) (by simp [f10]) (by omega) hqn3 (hof2.set _) (by simp) (hpm.trans (k1.wide (by omega) (by omega) (by omega))) (hah2.pm k1) (hfin.pm k1),x3,1,by omega,by omega,by simp,by simp⟩
  ·(repeat' (first | refine qS ?_ | (refine qK ?_;simp only [ak,reduceIte]) | (refine qC ?_;simp [hh]) | (refine w_e [] ?_;intro J hJ;simp only [];simp [hh];(refine hJ _ _ ?_;clear hJ J;simp only [ak,reduceIte]))))
   refine ⟨by trivial,?_⟩
   exact ⟨lim,PdI.mk (by simp [f0]) (by simp [f1]) (by simp [f2]) (by simp [f3]) (by simp [f8]) (by simp [f9]) (by simp [f10]) (by omega) hqn3 hof2 hc' hpm hah2 hfin,pv,h,by omega,by omega,by simp,by simp⟩
 clear f0 f1 f2 f3 f8 f9 f10 hlm hqn3 hof2 hc' hpm hah2 hfin hcl hsc c st2 fr lim h hp1 hp2 pv
 rintro fr st2 ⟨lim,⟨f0,f1,f2,f3,f8,f9,f10,hlm,hqn2,hof,c,hc,hpm,hah2,hfin⟩,pv,h,hp1,hp2,f11,f12⟩
 have hcl:=hpm.len
 have hsc:small c:=by unfold small;omega
 refine qS ?_
 refine awp_cutR (PdK q l st a b a' b' wb wp n) ?_ ?_
 ·clear hJJ
  cases wb
  ·(repeat' (first | refine qS ?_ | (refine qK ?_;simp only [ak,reduceIte]) | (refine qC ?_;simp [f8]) | (refine w_e [] ?_;intro J hJ;simp only [];simp [f8];(refine hJ _ _ ?_;clear hJ J;simp only [ak,reduceIte]))))
   refine .inl ⟨by trivial,?_⟩
   exact ⟨lim,PdI.mk (by simp [f0]) (by simp [f1]) (by simp [f2]) (by simp [f3]) (by simp [f8]) (by simp [f9]) (by simp [f10]) (by omega) hqn2 hof hc hpm hah2 hfin,pv,h,by omega,by omega,by simp [f11],by simp [f12]⟩
  cases wp
  ·(repeat' (first | refine qS ?_ | (refine qK ?_;simp only [ak,reduceIte]) | (refine qC ?_;simp [f8,f9]) | (refine w_e [] ?_;intro J hJ;simp only [];simp [f8,f9];(refine hJ _ _ ?_;clear hJ J;simp only [ak,reduceIte]))))
   refine .inl ⟨by trivial,?_⟩
   exact ⟨lim,PdI.mk (by simp [f0]) (by simp [f1]) (by simp [f2]) (by simp [f3]) (by simp [f8]) (by simp [f9]) (by simp [f10]) (by omega) hqn2 hof hc hpm hah2 hfin,pv,h,by omega,by omega,by simp [f11],by simp [f12]⟩
  by_cases hh:h=1
  rotate_left
  ·(repeat' (first | refine qS ?_ | (refine qK ?_;simp only [ak,reduceIte]) | (refine qC ?_;simp [f8,f9,f12,hh]) | (refine w_e [] ?_;intro J hJ;simp only [];simp [f8,f9,f12,hh];(refine hJ _ _ ?_;clear hJ J;simp only [ak,reduceIte]))))
   refine .inl ⟨by trivial,?_⟩
   exact ⟨lim,PdI.mk (by simp [f0]) (by simp [f1]) (by simp [f2]) (by simp [f3]) (by simp [f8]) (by simp [f9]) (by simp [f10]) (by omega) hqn2 hof hc hpm hah2 hfin,pv,h,by omega,by omega,by simp [f11],by simp [f12]⟩
  (repeat' (first | refine qS ?_ | (refine qC ?_;simp [f8,f9,f12,hh,f0,f1,f2]) | (refine w_e [] ?_;intro J hJ;simp only [];simp [f8,f9,f12,hh,f0,f1,f2];(try (refine hJ _ _ ?_;clear hJ J;simp only [ak,reduceIte])))))
  refine qE (partialInsertionSort c q a' b' st2 hsc (by omega) (by omega) hah2 hc) (by simp [f0,f1,f2,hcl]) ?_;rintro r st' ⟨d,p,rfl,rfl,k1,k2⟩
  cases p
  ·(repeat' (first | (refine qK ?_;simp only [ak,reduceIte]) | (refine qC ?_;simp []) | (refine e_go ?_;simp [];(refine hJ _ _ ?_;clear hJ J;simp only [ak,reduceIte]))))
   refine .inl ⟨by trivial,?_⟩
   exact ⟨lim,PdI.mk (by simp [f0]) (by simp [f1]) (by simp [f2]) (by simp [f3]) (by simp [f8]) (by simp [f9]) (by simp [f10]) (by omega) hqn2 (hof.set _) (by simp) (hpm.trans (k1.wide (by omega) (by omega) (by omega))) (hah2.pm k1) (hfin.pm k1),pv,h,by omega,by omega,by simp [f11],by simp [f12]⟩
  ·(repeat' (first | (refine qR ?_;simp only [ak,reduceIte];simp []) | (refine qC ?_;simp []) | (refine e_go ?_;simp [];(refine hJ _ _ ?_;clear hJ J;simp only [ak,reduceIte]))))
   exact ⟨d,rfl,hpm.trans (k1.wide (by omega) (by omega) (by omega)),hfin d k1 (k2 rfl),hof.set _⟩
 clear f0 f1 f2 f3 f8 f9 f10 f11 f12 hlm hqn2 hof hc hpm hah2 hfin hcl hsc c st2 fr lim h hp1 hp2 pv
 rintro fr st2 ⟨lim,⟨f0,f1,f2,f3,f8,f9,f10,hlm,hqn2,hof,c,hc,hpm,hah2,hfin⟩,pv,h,hp1,hp2,f11,f12⟩
 have hcl:=hpm.len
 have hsc:small c:=by unfold small;omega
 refine qS ?_
 refine awp_cutX (PdK q l st a b a' b' wb wp n) ?_ ?_
 ·by_cases h0:a'=0
  ·clear hJJ
   have h0':¬ (0:Int) < (a':Int):=by omega
   (repeat (refine qS ?_));(refine w_s [] [q] [(0,true),(1,true),(2,true),(3,true),(4,true),(5,true),(6,true),(7,true),(8,true),(9,true),(10,true),(11,true),(12,false),(13,true),(14,true)] ?_;intro J hJ;simp [f0,f1,h0];(refine hJ _ _ ?_;clear hJ J;simp only [ak,reduceIte]))
   (repeat' (first | (refine qK ?_;simp only [ak,reduceIte]) | (refine qC ?_;simp [])))
   refine .inl ⟨by trivial,?_⟩
   exact ⟨lim,PdI.mk (by simp [f0]) (by simp [f1]) (by simp [f2]) (by simp [f3]) (by simp [f8]) (by simp [f9]) (by simp [f10]) (by omega)  hqn2 hof hc hpm hah2 hfin,pv,h,by omega,by omega,by simp [f11],by simp [f12]⟩
  have h0':0 < a':=by omega
  have w2:=nat_sub_one a' (by omega) (by omega)
  have hd1:=qG c (a' - 1) (by omega)
  have hd2:=qG c pv (by omega)
  have hl3:a' - 1 < l.length:=by omega
  have hl4:pv < l.length:=by omega
  have hlow:∀ j,a'≤j→j < b'→c.getD (a' - 1) 0≤c.getD j 0:=hah2 h0'
  generalize hx:c.getD (a' - 1) 0=x at *
  generalize hy:c.getD pv 0=y at *
  (repeat (refine qS ?_));(refine w_s [] [q] [(0,true),(1,true),(2,true),(3,true),(4,true),(5,true),(6,true),(7,true),(8,true),(9,true),(10,true),(11,true),(12,false),(13,true),(14,true)] ?_;intro J hJ;simp [f0,f1,f11,h0',w2,hl3,hl4,hcl,hc,hd1,hd2])
  refine dcallK_of (Less x y _) ?_;rintro r s2 ⟨rfl,rfl⟩
  refine ⟨fun _=>by simp,?_⟩
  by_cases hxy:x < y
  ·clear hJJ
   (refine d_go ?_;simp [hxy];(refine hJ _ _ ?_;clear hJ J;simp only [ak,reduceIte]))
   (repeat' (first | (refine qK ?_;simp only [ak,reduceIte]) | (refine qC ?_;simp [])))
   refine .inl ⟨by trivial,?_⟩
   exact ⟨lim,PdI.mk (by simp [f0]) (by simp [f1]) (by simp [f2]) (by simp [f3]) (by simp [f8]) (by simp [f9]) (by simp [f10]) (by omega)  hqn2 hof hc hpm hah2 hfin,pv,h,by omega,by omega,by simp [f11],by simp [f12]⟩
  (refine d_go ?_;simp [hxy];(refine hJ _ _ ?_;clear hJ J;simp only [ak,reduceIte]))
  (repeat' (first | refine qS ?_ | (refine qC ?_;simp [f0,f1,f2,f11]) | (refine w_e [] ?_;intro J hJ;simp only [];simp [f0,f1,f2,f11])))
  refine qE (partitionEqual c q a' b' pv _ hsc (by omega) (by omega) hp1 hp2 hc) (by simp [f0,f1,f2,f11,hcl]) ?_;rintro r st' ⟨d,mid,rfl,rfl,k1,k2,k3,k4⟩
  (repeat' (first | refine qS ?_ | (refine qX ?_;simp only [ak,reduceIte]) | ((first | (refine w_e [] ?_;intro J hJ;simp only []) | (refine e_go ?_));simp [];(refine hJ _ _ ?_;clear hJ J;simp only [ak,reduceIte]))))
  refine .inr ⟨by simp,?_⟩
  refine hJJ (b' - mid) _ _ (by omega) ⟨mid,b',lim,wb,wp,.nil,by omega,by omega,by omega,rfl,?_⟩
  rw [hy] at k4
  refine PdI.mk (by simp [f0]) (by simp) (by simp [f2]) (by simp [f3]) (by simp [f8]) (by simp [f9]) (by simp) (by omega) hqn2 (hof.set _) (by simp) (hpm.trans (k1.wide (by omega) (by omega) (by omega))) ?_ ?_
  ·intro _ j g1 g2
   have e1:=k4.1 (mid - 1) (by omega) (by omega)
   have e2:=k4.2 j g1 g2
   omega
  ·intro e g1 g2
   refine hfin e (k1.trans (g1.wide (by omega) (by omega) (by have:=k1.len;omega))) (eq_glue k4 (fun j e1 e2=>?_) g1 g2)
   have:=k1.all (fun v=>x≤v) hlow j e1 (by omega)
   omega
 clear f0 f1 f2 f3 f8 f9 f10 f11 f12 hlm hqn2 hof hc hpm hah2 hfin hcl hsc c st2 fr lim h hp1 hp2 pv
 rintro fr st2 ⟨lim,⟨f0,f1,f2,f3,f8,f9,f10,hlm,hqn2,hof,c,hc,hpm,hah2,hfin⟩,pv,h,hp1,hp2,f11,f12⟩
 have hcl:=hpm.len
 have hsc:small c:=by unfold small;omega
 (repeat' (first | refine qS ?_ | (refine w_e [] ?_;intro J hJ;simp only [];simp [f0,f1,f2,f11])))
 refine qE (partition c q a' b' pv _ hsc (by omega) (by omega) hp1 hp2 hc) (by simp [f0,f1,f2,f11,hcl]) ?_;rintro r st' ⟨d,mid,p,rfl,rfl,k1,k2,k3,k4⟩
 have hdl:=k1.len
 have k4:PartedAt d a' mid b':=k4
 have hpm':=hpm.trans (k1.wide ha1 hb2 (by omega))
 have hah':=hah2.pm k1
 have hfin':=hfin.pm k1
 have hof':=hof.set (q:=q) (.box 32 1 (us d))
 have w3:IntKind.i64.wrap ((mid:Int) - (a':Int))=((mid - a':Nat):Int):=by rw [wrap_i64 _ (by omega) (by omega)];omega
 have w4:IntKind.i64.wrap ((b':Int) - (mid:Int))=((b' - mid:Nat):Int):=by rw [wrap_i64 _ (by omega) (by omega)];omega
 have w5:IntKind.i64.wrap ((n:Int) / 8)=((n / 8:Nat):Int):=by
  rw [show (n:Int) / 8=((n / 8:Nat):Int) from rfl]
  exact wrap_i64 _ (by omega) (by omega)
 obtain ⟨z1,hz1⟩:∃ x:Nat,x=mid - a':=⟨_,rfl⟩
 obtain ⟨z2,hz2⟩:∃ x:Nat,x=b' - mid:=⟨_,rfl⟩
 obtain ⟨z3,hz3⟩:∃ x:Nat,x=n / 8:=⟨_,rfl⟩
 obtain ⟨m1,hm1⟩:∃ x:Nat,x=mid+1:=⟨_,rfl⟩
 rw [← hz1] at w3;rw [← hz2] at w4;rw [← hz3] at w5
 have w6:IntKind.i64.wrap ((mid:Int)+1)=(m1:Int):=by rw [qN mid (by omega),hm1]
 clear hc hpm hah2 hfin hof
 (repeat' (first | refine qS ?_ | ((first | (refine w_e [] ?_;intro J hJ;simp only []) | (refine e_go ?_));simp [f1,f2,f10,w3,w4,w5];(refine hJ _ _ ?_;clear hJ J;simp only [ak,reduceIte]))))
 refine qC ?_
 by_cases hzz:z1 < z2
 ·simp [hzz]
  (repeat' (first | refine qS ?_ | (refine w_e [] ?_;intro J hJ;simp only [];simp [f0,f1,f3];(try (refine hJ _ _ ?_;clear hJ J;simp only [ak,reduceIte])))))
  refine qE (ih d q a' mid lim (bx st2 q d) (by omega) (by omega) (by omega) (by omega) (hah'.less (by omega)) (by omega) hqn2 (by simp)) (by simp [f0,f1,f2,f3,hdl,hcl]) ?_;rintro r st' ⟨e,j0,j1,j2,j3⟩
  (repeat' ((first | (refine w_e [] ?_;intro J hJ;simp only []) | (refine e_go ?_));simp [w6];(refine hJ _ _ ?_;clear hJ J;simp only [ak,reduceIte])))
  refine hJJ (b' - m1) _ _ (by omega) ⟨m1,b',lim,decide (z3≤z1),p,.nil,by omega,by omega,by omega,rfl,?_⟩
  refine PdI.mk (by simp [f0]) (by simp) (by simp [f2]) (by simp [f3]) (by simp) (by simp) (by simp) (by omega) (Nat.lt_of_lt_of_le hqn2 j3.1) (hof'.trans j3) j0 (hpm'.trans (j1.wide (by omega) (by omega) (by omega))) ?_ ?_
  ·rw [hm1];exact (k4.pmL j1).aheadR
  ·intro y g1 g2
   rw [hm1] at g1 g2
   refine hfin' y ((j1.wide (by omega) (by omega) (by omega)).trans (g1.wide (by omega) (by omega) (by have:=j1.len;omega))) (((k4.pmL j1).pmR g1).glue (Srt.out j2 fun j e1 e2=>g1.out j (by omega)) g2)
 ·simp [hzz]
  (repeat' (first | refine qS ?_ | (refine w_e [] ?_;intro J hJ;simp only [];simp [f0,f2,f3,w6];(try (refine hJ _ _ ?_;clear hJ J;simp only [ak,reduceIte])))))
  refine qE (ih d q m1 b' lim (bx st2 q d) (by omega) (by omega) (by omega) (by omega) (by rw [hm1];exact k4.aheadR) (by omega) hqn2 (by simp)) (by simp [f0,f1,f2,f3,hdl,hcl]) ?_;rintro r st' ⟨e,j0,j1,j2,j3⟩
  (repeat' ((first | (refine w_e [] ?_;intro J hJ;simp only []) | (refine e_go ?_));simp [];(refine hJ _ _ ?_;clear hJ J;simp only [ak,reduceIte])))
  rw [hm1] at j1 j2
  refine hJJ (mid - a') _ _ (by omega) ⟨a',mid,lim,decide (z3≤z2),p,.nil,by omega,by omega,by omega,rfl,?_⟩
  refine PdI.mk (by simp [f0]) (by simp [f1]) (by simp) (by simp [f3]) (by simp) (by simp) (by simp) (by omega) (Nat.lt_of_lt_of_le hqn2 j3.1) (hof'.trans j3) j0 (hpm'.trans (j1.wide (by omega) (by omega) (by omega))) ?_ ?_
  ·exact (hah'.pm (j1.wide (by omega) (by omega) (by omega))).less (by omega)
  ·intro y g1 g2
   refine hfin' y ((j1.wide (by omega) (by omega) (by omega)).trans (g1.wide (by omega) (by omega) (by have:=j1.len;omega))) (((k4.pmR j1).pmL g1).glue g2 (Srt.out j2 fun j e1 e2=>g1.out j (by omega)))
theorem SortU (l:List Int) (q:Nat) (st:St) (hl:l.length < 65536) (hqn:q < st.next) (hH:st.H q=.box 32 1 (us l)):
 ACalls Tryz.prog 24 [.ms q 0 l.length] st fun r st'=>∃ c,st'.H q=.box 32 1 (us c)∧c.Perm l∧c.Pairwise (·≤·)∧OffS q st st':=by
 have w1:IntKind.u64.wrap (l.length:Int)=(l.length:Int):=wrap_u64 _ (by omega) (by omega)
 have hbl:=(blen_at l.length hl).1
 refine qO tabOk Tryz.func24 rfl rfl Tryz.ntmps24 (rs:=[]) rfl (by simp) ?_
 (repeat' (first | refine qS ?_ | (refine w_e [] ?_;intro J hJ;simp only [];simp [w1];(try (refine hJ _ _ ?_;clear hJ J;simp only [ak,reduceIte])))))
 refine qF (Len l.length _ hl) ?_;rintro r st' ⟨rfl,rfl⟩
 (repeat' (refine e_go ?_;simp []))
 refine qE (pdqsort_upto (l.length+1) l q 0 l.length (blen l.length) _ hl (by omega) (by omega) (by omega) (fun h=>absurd h (by omega)) (by omega) hqn hH) (by simp []) ?_;rintro r st' ⟨c,k1,k2,k3,k4⟩
 (repeat' (refine e_go ?_;simp [];(refine hJ _ _ ?_;clear hJ J;simp only [ak,reduceIte])))
 have hcl:=k2.len
 exact ⟨trivial,c,k1,k2.perm,srt_pair (by rw [hcl];exact k3),k4⟩
end Go.Proofs.YtkcokoefodgigaaGreat.Aw
namespace Go.Proofs.YtkcokoefodgigaaGreat.Aw.CB
open Go Go.RowKit Go.Proofs.YtkcokoefodgigaaGreat.Pl
set_option linter.unusedSimpArgs false
set_option linter.unusedVariables false
structure CmpW (fid:FuncId) (caps:List LV) (en:Int→Nat) (ec:Int→List LV) (Dm:Int→Prop):Prop where
 call:∀ x y st,Dm x→Dm y→ACalls Tryz.prog fid ([.sl 0 (en x) (ec x),.sl 0 (en y) (ec y)]++caps) st fun r st'=>(∃ n,r=i n∧(n < 0↔x < y))∧st'=st
abbrev ws (en:Int→Nat) (ec:Int→List LV) (c:List Int):List LV:=c.map fun x=>.sl 0 (en x) (ec x)
theorem ws_drop (en:Int→Nat) (ec:Int→List LV) (l:List Int) (j:Nat) (hj:j < l.length):(ws en ec l).drop j=.sl 0 (en (l.getD j 0)) (ec (l.getD j 0))::ws en ec (l.drop (j+1)):=by
 rw [getD_lt _ _ hj,ws,ws,← List.map_drop,List.drop_eq_getElem_cons hj];rfl
theorem ws_set (en:Int→Nat) (ec:Int→List LV) (c:List Int) (k:Nat) (x:Int) (hk:k < c.length):(ws en ec c).take k++.sl 0 (en x) (ec x)::(ws en ec c).drop (k+1)=ws en ec (c.set k x):=by
 simp only [ws]
 rw [← List.map_take,← List.map_drop,List.set_eq_take_append_cons_drop,if_pos hk]
 simp
theorem dm_get {Dm:Int→Prop} {l:List Int} (h:∀ x∈l,Dm x) {k:Nat} (hk:k < l.length):Dm (l.getD k 0):=h _ (by rw [getD_lt _ _ hk];exact List.getElem_mem _)
theorem dm_pm {Dm:Int→Prop} {a b:Nat} {l c:List Int} (h:∀ x∈l,Dm x) (k:Pm a b l c):∀ x∈c,Dm x:=fun x hx=>h x (k.perm.mem_iff.1 hx)
abbrev bx (en:Int→Nat) (ec:Int→List LV) (st:St) (q:Nat) (c:List Int):St:=st.set q (.box 23 1 (ws en ec c))
theorem bx_self {en:Int→Nat} {ec:Int→List LV} {st:St} {q:Nat} {c:List Int} (h:st.H q=.box 23 1 (ws en ec c)):st=bx en ec st q c:=
 St.ext' rfl fun x=>by by_cases hx:x=q<;>simp [hx,h]
theorem bx_sw (en:Int→Nat) (ec:Int→List LV) (st:St) (q:Nat) (c:List Int) (k m:Nat) {x y:Int} (hk:k < c.length) (hm:m < c.length) (hx:c.getD k 0=x) (hy:c.getD m 0=y):
 ((bx en ec st q c).set q (.box 23 1 (List.take k (ws en ec c)++.sl 0 (en y) (ec y)::List.drop (k+1) (ws en ec c)))).set q
   (.box 23 1 (List.take m (List.take k (ws en ec c)++.sl 0 (en y) (ec y)::List.drop (k+1) (ws en ec c))++.sl 0 (en x) (ec x)::List.drop (m+1) (List.take k (ws en ec c)++.sl 0 (en y) (ec y)::List.drop (k+1) (ws en ec c))))=bx en ec st q (sw c k m):=by
 have e:List.take k (ws en ec c)++.sl 0 (en y) (ec y)::List.drop (k+1) (ws en ec c)=ws en ec (c.set k y):=ws_set en ec c k y hk
 rw [e,ws_set en ec (c.set k y) m x (by simpa using hm)]
 unfold bx sw
 rw [hx,hy]
 exact St.ext' rfl fun z=>by by_cases hz:z=q<;>simp [hz]
theorem insertionSort {fid:FuncId} {caps:List LV} {en:Int→Nat} {ec:Int→List LV} {Dm:Int→Prop} (hC:CmpW fid caps en ec Dm) (l:List Int) (q a b:Nat) (st:St) (hD:∀ x∈l,Dm x) (hl:small l) (ha:a≤b) (hb:b≤l.length) (hH:st.H q=.box 23 1 (ws en ec l)):
 ACalls Tryz.prog 48 [.ms q 0 l.length,i a,i b,.fn (.func fid) caps] st fun r st'=>∃ c,st'=bx en ec st q c∧Pm a b l c∧Srt a b c:=by
 unfold small at hl
 refine qO tabOk Tryz.func48 rfl rfl Tryz.ntmps48 (rs:=[]) rfl (by simp) ?_
 have hw0:=qN a (by omega)
 (repeat' (first | refine qS ?_ | refine qB ?_ | (refine w_e [] ?_;intro J hJ;simp only [];simp [hw0];(refine hJ _ _ ?_;clear hJ J;simp only [ak,reduceIte]))))
 refine qL (fun n fr st'=>∃ (k:Nat) (c:List Int),a < k∧n=b - k∧(fr 0=.ms q 0 l.length∧fr 3=.fn (.func fid) caps)∧fr 1=i a∧fr 2=i b∧fr 8=i k∧st'=bx en ec st q c∧Pm a b l c∧Srt a k c) (b - (a+1)) ?_ ?_
 ·exact ⟨a+1,l,by omega,rfl,by simp,by simp,by simp,by simp,bx_self hH,.refl,fun p q h1 h2 h3=>by omega⟩
 rintro n fr st1 ⟨k,c,hak,rfl,⟨f0,fC⟩,f1,f2,f6,rfl,hpm,hs⟩ JJ hJJ
 have hcl:=hpm.len
 have hDc:=dm_pm hD hpm
 by_cases hlt:k < b
 rotate_left
 ·clear hJJ
  have hlt':¬ (k:Int) < (b:Int):=by omega
  (repeat' (first | refine qS ?_ | (refine qX ?_;simp only [ak,reduceIte]) | (refine qC ?_;simp [f0,fC,f1,f2,f6,hlt]) | (refine w_e [] ?_;intro J hJ;simp only [];simp [f0,fC,f1,f2,f6,hlt];(refine hJ _ _ ?_;clear hJ J;simp only [ak,reduceIte]))))
  exact ⟨trivial,c,rfl,hpm,fun p q h1 h2 h3=>hs p q h1 h2 (by omega)⟩
 have hw1:=qN k (by omega)
 (repeat' (first | refine qS ?_ | refine qB ?_ | (refine qK ?_;simp only [ak,reduceIte]) | (refine qC ?_;simp [f0,fC,f1,f2,f6,hlt]) | (refine w_e [] ?_;intro J hJ;simp only [];simp [f0,fC,f1,f2,f6,hlt];(refine hJ _ _ ?_;clear hJ J;simp only [ak,reduceIte]))))
 refine qL (fun n fr st'=>∃ (j:Nat) (c:List Int),a≤j∧j≤k∧j=n∧(fr 0=.ms q 0 l.length∧fr 3=.fn (.func fid) caps)∧fr 1=i a∧fr 2=i b∧fr 8=i k∧fr 9=i j∧st'=bx en ec st q c∧Pm a b l c∧Ins a j k c) k ?_ ?_
 ·exact ⟨k,c,by omega,by omega,rfl,by simp [f0,fC],by simp [f1],by simp [f2],by simp [f6],by simp,rfl,hpm,hs.ins⟩
 clear f0 fC f1 f2 f6 hs hpm hcl hDc c fr
 rintro n fr st1 ⟨j,c,haj,hjk,rfl,⟨f0,fC⟩,f1,f2,f6,f7,rfl,hpm,hI⟩ JJ2 hJ2
 have hcl:=hpm.len
 have hDc:=dm_pm hD hpm
 by_cases hj:a < j
 rotate_left
 ·clear hJ2
  have hj':¬ (a:Int) < (j:Int):=by omega
  (repeat (refine qS ?_));(refine w_s [] [q] [(0,true),(1,true),(2,true),(3,true),(4,true),(5,true),(6,true),(7,true),(8,true),(9,true),(10,true),(11,true),(12,true),(13,true),(14,false),(15,true),(16,true)] ?_;intro J hJ;simp [f0,fC,f1,f2,f6,f7,hj];(refine hJ _ _ ?_;clear hJ J;simp only [ak,reduceIte]))
  (repeat' (first | (refine qX ?_;simp only [ak,reduceIte]) | (refine qC ?_;simp [f6,hw1]) | (refine w_e [] ?_;intro J hJ;simp only [];simp [f6,hw1];(refine hJ _ _ ?_;clear hJ J;simp only [ak,reduceIte]))))
  exact hJJ (b - (k+1)) _ _ (by omega) ⟨k+1,c,by omega,rfl,by simp [f0,fC],by simp [f1],by simp [f2],by simp,rfl,hpm,hI.done haj (.inl (by omega))⟩
 have hw2:=nat_sub_one j (by omega) (by omega)
 have hjl:j < l.length:=by omega
 have hjl1:j - 1 < l.length:=by omega
 have hd:=ws_drop en ec c j (by omega)
 have hd2:=ws_drop en ec c (j - 1) (by omega)
 have hI1:=hI.step hj hjk (by omega)
 have hI2:=hI.done haj
 have hpm1:=hpm.step j (j - 1) (by omega) (by omega) (by omega) (by omega) (by omega)
 generalize hx:c.getD j 0=x at *
 generalize hy:c.getD (j - 1) 0=y at *
 (repeat (refine qS ?_));(refine w_s [] [q] [(0,true),(1,true),(2,true),(3,true),(4,true),(5,true),(6,true),(7,true),(8,true),(9,true),(10,true),(11,true),(12,true),(13,true),(14,false),(15,true),(16,true)] ?_;intro J hJ;simp [f0,fC,f1,f2,f6,f7,hj,hw2,hjl,hjl1,hcl,hd,hd2])
 refine dcallK_of (hC.call x y _ (by first | assumption | (subst_vars;exact dm_get (by assumption) (by omega))) (by first | assumption | (subst_vars;exact dm_get (by assumption) (by omega)))) ?_;rintro r s2 ⟨⟨nv,rfl,hnv⟩,rfl⟩
 refine ⟨fun _=>by simp,?_⟩
 by_cases hcd:x < y
 rotate_left
 ·clear hJ2
  (refine d_go ?_;simp [hnv,hcd];(refine hJ _ _ ?_;clear hJ J;simp only [ak,reduceIte]))
  (repeat' (first | (refine qX ?_;simp only [ak,reduceIte]) | (refine qC ?_;simp [f6,hw1]) | (refine w_e [] ?_;intro J hJ;simp only [];simp [f6,hw1];(refine hJ _ _ ?_;clear hJ J;simp only [ak,reduceIte]))))
  exact hJJ (b - (k+1)) _ _ (by omega) ⟨k+1,c,by omega,rfl,by simp [f0,fC],by simp [f1],by simp [f2],by simp,rfl,hpm,hI2 (.inr hcd)⟩
 clear hJJ
 (refine d_go ?_;simp [hnv,hcd];(refine hJ _ _ ?_;clear hJ J;simp only [ak,reduceIte]))
 (repeat' (first | refine qS ?_ | refine qB ?_ | (refine qK ?_;simp only [ak,reduceIte]) | (refine qC ?_;simp [])))
 (refine w_s [] [q] [(0,true),(1,true),(2,true),(3,true),(4,true),(5,true),(6,true),(7,true),(8,true),(9,true),(10,true),(11,true),(12,true),(13,true),(14,true),(15,false),(16,true),(17,false)] ?_;intro J hJ;simp [f0,fC,f1,f2,f6,f7,hw2,hjl,hjl1,hcl,hd,hd2];(repeat refine ca ?_);(refine hJ _ _ ?_;clear hJ J;simp only [ak,reduceIte]))
 (repeat' (refine w_e [] ?_;intro J hJ;simp only [];simp [f7,hw2];(refine hJ _ _ ?_;clear hJ J;simp only [ak,reduceIte])))
 exact hJ2 (j - 1) _ _ (by omega) ⟨j - 1,sw c j (j - 1),by omega,by omega,rfl,by simp [f0,fC],by simp [f1],by simp [f2],by simp [f6],by simp,bx_sw en ec st q c j (j - 1) (by omega) (by omega) hx hy,hpm1,hI1 hcd⟩
theorem reverseRange {fid:FuncId} {caps:List LV} {en:Int→Nat} {ec:Int→List LV} {Dm:Int→Prop} (hC:CmpW fid caps en ec Dm) (l:List Int) (q a b:Nat) (st:St) (hD:∀ x∈l,Dm x) (hl:small l) (ha:a≤b) (hb:b≤l.length) (h0:0 < b) (hH:st.H q=.box 23 1 (ws en ec l)):
 ACalls Tryz.prog 52 [.ms q 0 l.length,i a,i b,.fn (.func fid) caps] st fun r st'=>∃ c,st'=bx en ec st q c∧Pm a b l c:=by
 unfold small at hl
 refine qO tabOk Tryz.func52 rfl rfl Tryz.ntmps52 (rs:=[]) rfl (by simp) ?_
 have hw0:=nat_sub_one b (by omega) (by omega)
 (repeat' (first | refine qS ?_ | refine qB ?_ | (refine w_e [] ?_;intro J hJ;simp only [];simp [hw0];(refine hJ _ _ ?_;clear hJ J;simp only [ak,reduceIte]))))
 refine qL (fun n fr st'=>∃ (k m:Nat) (c:List Int),a≤k∧m < b∧m=n∧(fr 0=.ms q 0 l.length∧fr 3=.fn (.func fid) caps)∧fr 8=i k∧fr 9=i m∧st'=bx en ec st q c∧Pm a b l c) (b - 1) ?_ ?_
 ·exact ⟨a,b - 1,l,by omega,by omega,rfl,by simp,by simp,by simp,bx_self hH,.refl⟩
 rintro n fr st1 ⟨k,m,c,hak,hmb,rfl,⟨f0,fC⟩,f6,f7,rfl,hpm⟩ JJ hJJ
 have hcl:=hpm.len
 have hDc:=dm_pm hD hpm
 by_cases hlt:k < m
 rotate_left
 ·clear hJJ
  (repeat' (first | refine qS ?_ | (refine qX ?_;simp only [ak,reduceIte]) | (refine qC ?_;simp [f0,fC,f6,f7,hlt]) | (refine w_e [] ?_;intro J hJ;simp only [];simp [f0,fC,f6,f7,hlt];(refine hJ _ _ ?_;clear hJ J;simp only [ak,reduceIte]))))
  exact ⟨trivial,c,rfl,hpm⟩
 have hw1:=qN k (by omega)
 have hw2:=nat_sub_one m (by omega) (by omega)
 have hkl:k < l.length:=by omega
 have hml:m < l.length:=by omega
 have hd:=ws_drop en ec c k (by omega)
 have hd2:=ws_drop en ec c m (by omega)
 have hpm1:=hpm.step k m (by omega) (by omega) (by omega) (by omega) (by omega)
 generalize hx:c.getD k 0=x at *
 generalize hy:c.getD m 0=y at *
 (repeat' (first | refine qS ?_ | refine qB ?_ | (refine qK ?_;simp only [ak,reduceIte]) | (refine qC ?_;simp [f0,fC,f6,f7,hlt]) | (refine w_e [] ?_;intro J hJ;simp only [];simp [f0,fC,f6,f7,hlt];(refine hJ _ _ ?_;clear hJ J;simp only [ak,reduceIte]))))
 (refine w_s [] [q] [(0,true),(1,true),(2,true),(3,true),(4,true),(5,true),(6,true),(7,true),(8,true),(9,true),(10,true),(11,true),(12,true),(13,false),(14,true),(15,false)] ?_;intro J hJ;simp [f0,fC,f6,f7,hkl,hml,hcl,hd,hd2];(repeat refine ca ?_);(refine hJ _ _ ?_;clear hJ J;simp only [ak,reduceIte]))
 (repeat' (first | refine qS ?_ | (refine w_e [] ?_;intro J hJ;simp only [];simp [f6,f7,hw1,hw2];(refine hJ _ _ ?_;clear hJ J;simp only [ak,reduceIte]))))
 exact hJJ (m - 1) _ _ (by omega) ⟨k+1,m - 1,sw c k m,by omega,by omega,rfl,by simp [f0,fC],by simp,by simp,bx_sw en ec st q c k m (by omega) (by omega) hx hy,hpm1⟩
theorem awp_cut1 {P:Program} {N:Nat} {Q:AQ} {k:List AItem} {fr:Frm} {st:St} {x y:Code} (I:Frm→St→Prop) (h1:AWp P N x (AK P N (fun e f s=>e=.normal∧I f s) []) fr st) (h2:∀ fr st,I fr st→AWp P N y (AK P N Q k) fr st):
 AWp P N x (AK P N Q (.code y::k)) fr st:=by
 refine awp_mono h1 ?_
 rintro e fr' st' ⟨rfl,hI⟩
 rw [ak_code]
 exact h2 _ _ hI
theorem bx_sw' (en:Int→Nat) (ec:Int→List LV) (st:St) (q:Nat) (c:List Int) (k m:Nat) {x y:Int} (hk:k < c.length) (hm:m < c.length) (hx:c.getD k 0=x) (hy:c.getD m 0=y):
 (st.set q (.box 23 1 (List.take k (ws en ec c)++.sl 0 (en y) (ec y)::List.drop (k+1) (ws en ec c)))).set q
   (.box 23 1 (List.take m (List.take k (ws en ec c)++.sl 0 (en y) (ec y)::List.drop (k+1) (ws en ec c))++.sl 0 (en x) (ec x)::List.drop (m+1) (List.take k (ws en ec c)++.sl 0 (en y) (ec y)::List.drop (k+1) (ws en ec c))))=bx en ec st q (sw c k m):=by
 rw [← bx_sw en ec st q c k m hk hm hx hy]
 exact St.ext' rfl fun z=>by by_cases hz:z=q<;>simp [hz]
theorem awp_cut2 {P:Program} {N:Nat} {Q:AQ} {k:List AItem} {fr:Frm} {st:St} {x y z:Code} (I:Frm→St→Prop) (h1:AWp P N x (AK P N (fun e f s=>e=.normal∧I f s) [.code y]) fr st) (h2:∀ fr st,I fr st→AWp P N z (AK P N Q k) fr st):
 AWp P N x (AK P N Q (.code y::.code z::k)) fr st:=by
 refine awp_mono h1 ?_
 rintro e fr' st' h
 cases e with
 | normal=>
   rw [ak_code] at h ⊢
   refine awp_mono h ?_
   rintro e fr2 st2 ⟨rfl,h⟩
   rw [ak_code]
   exact h2 _ _ h
 | _=>exact absurd h.1 (by simp)
def MaxC (c:List Int) (f r hi ch:Nat):Prop:=∀ x,(x=2 * r+1∨x=2 * r+2)→x < hi→c.getD (f+x) 0≤c.getD (f+ch) 0
theorem siftDown {fid:FuncId} {caps:List LV} {en:Int→Nat} {ec:Int→List LV} {Dm:Int→Prop} (hC:CmpW fid caps en ec Dm) (l:List Int) (q lo hi f:Nat) (st:St) (hD:∀ x∈l,Dm x) (hl:small l) (hb:f+hi≤l.length) (hlo:lo≤l.length) (hh:Heap (lo+1) hi f l) (hH:st.H q=.box 23 1 (ws en ec l)):
 ACalls Tryz.prog 75 [.ms q 0 l.length,i lo,i hi,i f,.fn (.func fid) caps] st fun r st'=>∃ c,st'=bx en ec st q c∧Pm (f+lo) (f+hi) l c∧Heap lo hi f c:=by
 unfold small at hl
 refine qO tabOk Tryz.func75 rfl rfl Tryz.ntmps75 (rs:=[]) rfl (by simp) ?_
 (repeat' (first | refine qS ?_ | refine qB ?_ | (refine w_e [] ?_;intro J hJ;simp only [];simp [];(refine hJ _ _ ?_;clear hJ J;simp only [ak,reduceIte]))))
 refine qL (fun n fr st'=>∃ (r:Nat) (c:List Int),lo≤r∧r≤l.length∧n=hi - r∧(fr 0=.ms q 0 l.length∧fr 4=.fn (.func fid) caps)∧fr 2=i hi∧fr 3=i f∧fr 10=i r∧st'=bx en ec st q c∧Pm (f+lo) (f+hi) l c∧HeapX lo hi f r c) (hi - lo) ?_ ?_
 ·exact ⟨lo,l,Nat.le_refl _,hlo,rfl,by simp,by simp,by simp,by simp,bx_self hH,.refl,hh.x⟩
 rintro n fr st1 ⟨r,c,hlr,hrl,rfl,⟨f0,fC⟩,f2,f3,f8,rfl,hpm,hX⟩ JJ hJJ
 have hcl:=hpm.len
 have hDc:=dm_pm hD hpm
 obtain ⟨m,hm⟩:∃ m:Nat,m=2 * r+1:=⟨_,rfl⟩
 obtain ⟨m2,hm2⟩:∃ m:Nat,m=2 * r+2:=⟨_,rfl⟩
 have w1:IntKind.i64.wrap (2 * (r:Int))=2 * (r:Int):=wrap_i64 _ (by omega) (by omega)
 have w2:IntKind.i64.wrap (2 * (r:Int)+1)=(m:Int):=by rw [wrap_i64 _ (by omega) (by omega)];omega
 have w3:IntKind.i64.wrap ((m:Int)+1)=(m2:Int):=by rw [wrap_i64 _ (by omega) (by omega)];omega
 by_cases hmh:hi≤m
 ·clear hJJ
  (repeat' (first | refine qS ?_ | refine qB ?_ | (refine qX ?_;simp only [ak,reduceIte]) | (refine qC ?_;simp [f0,fC,f2,f3,f8,w1,w2,hmh]) | (refine w_e [] ?_;intro J hJ;simp only [];simp [f0,fC,f2,f3,f8,w1,w2,hmh];(refine hJ _ _ ?_;clear hJ J;simp only [ak,reduceIte]))))
  exact ⟨trivial,c,rfl,hpm,hX.leaf (by omega)⟩
 obtain ⟨x1,hx1⟩:∃ x:Nat,x=f+m:=⟨_,rfl⟩
 obtain ⟨x2,hx2⟩:∃ x:Nat,x=f+m2:=⟨_,rfl⟩
 obtain ⟨x0,hx0⟩:∃ x:Nat,x=f+r:=⟨_,rfl⟩
 have w4:IntKind.i64.wrap ((f:Int)+(m:Int))=(x1:Int):=by rw [wrap_i64 _ (by omega) (by omega)];omega
 have w5:IntKind.i64.wrap ((x1:Int)+1)=(x2:Int):=by rw [wrap_i64 _ (by omega) (by omega)];omega
 have w6:IntKind.i64.wrap ((f:Int)+(r:Int))=(x0:Int):=by rw [wrap_i64 _ (by omega) (by omega)];omega
 (repeat' (first | refine qS ?_ | refine qB ?_ | (refine w_e [] ?_;intro J hJ;simp only [];simp [f0,fC,f2,f3,f8,w1,w2,hmh];(refine hJ _ _ ?_;clear hJ J;simp only [ak,reduceIte]))))
 (refine qC ?_;simp [])
 (repeat' (first | refine qS ?_ | (refine qK ?_;simp only [ak,reduceIte])))
 refine awp_cut2 (fun fr2 st2=>st2=bx en ec st q c∧(fr2 0=.ms q 0 l.length∧fr2 4=.fn (.func fid) caps)∧fr2 2=i hi∧fr2 3=i f∧fr2 10=i r∧∃ ch:Nat,fr2 11=i ch∧(ch=2 * r+1∨ch=2 * r+2)∧ch < hi∧MaxC c f r hi ch) ?_ ?_
 ·by_cases h2h:m2 < hi
  rotate_left
  ·(refine w_s [] [q] [(0,true),(1,true),(2,true),(3,true),(4,true),(5,true),(6,true),(7,true),(8,true),(9,true),(10,true),(11,true),(12,true),(13,true),(14,true),(15,true),(16,true),(17,true),(18,true),(19,false),(20,true),(21,true)] ?_;intro J hJ;simp [f0,fC,f2,f3,f8,w3,h2h];(refine hJ _ _ ?_;clear hJ J;simp only [ak,reduceIte]))
   (repeat' (first | (refine qK ?_;simp only [ak,reduceIte]) | (refine qC ?_;simp [f0,fC])))
   refine ⟨trivial,trivial,by simp [f0,fC],by simp [f2],by simp [f3],by simp [f8],m,by simp,by omega,by omega,fun x h1 h2=>?_⟩
   rw [show x=m by omega];exact Int.le_refl _
  have hd1:=ws_drop en ec c x1 (by omega)
  have hd2:=ws_drop en ec c x2 (by omega)
  have hl1:x1 < l.length:=by omega
  have hl2:x2 < l.length:=by omega
  generalize hy1:c.getD x1 0=y1 at *
  generalize hy2:c.getD x2 0=y2 at *
  (refine w_s [] [q] [(0,true),(1,true),(2,true),(3,true),(4,true),(5,true),(6,true),(7,true),(8,true),(9,true),(10,true),(11,true),(12,true),(13,true),(14,true),(15,true),(16,true),(17,true),(18,true),(19,false),(20,true),(21,true)] ?_;intro J hJ;simp [f0,fC,f2,f3,f8,w3,w4,w5,h2h,hl1,hl2,hcl,hd1,hd2])
  refine dcallK_of (hC.call y1 y2 _ (by first | assumption | (subst_vars;exact dm_get (by assumption) (by omega))) (by first | assumption | (subst_vars;exact dm_get (by assumption) (by omega)))) ?_;rintro r1 s2 ⟨⟨nv,rfl,hnv⟩,rfl⟩
  refine ⟨fun _=>by simp,?_⟩
  by_cases hyy:y1 < y2
  ·(refine d_go ?_;simp [hnv,hyy];(refine hJ _ _ ?_;clear hJ J;simp only [ak,reduceIte]))
   (repeat' (first | (refine qC ?_;simp [w3]) | (refine w_e [] ?_;intro J hJ;simp only [];simp [w3];(refine hJ _ _ ?_;clear hJ J;simp only [ak,reduceIte]))))
   refine ⟨trivial,trivial,by simp [f0,fC],by simp [f2],by simp [f3],by simp [f8],m2,by simp,by omega,by omega,fun x h1 h2=>?_⟩
   rcases (show x=m∨x=m2 by omega) with rfl | rfl
   ·rw [← hx1,← hx2,hy1,hy2];omega
   ·exact Int.le_refl _
  ·(refine d_go ?_;simp [hnv,hyy];(refine hJ _ _ ?_;clear hJ J;simp only [ak,reduceIte]))
   (repeat' (first | (refine qK ?_;simp only [ak,reduceIte]) | (refine qC ?_;simp [])))
   refine ⟨trivial,trivial,by simp [f0,fC],by simp [f2],by simp [f3],by simp [f8],m,by simp,by omega,by omega,fun x h1 h2=>?_⟩
   rcases (show x=m∨x=m2 by omega) with rfl | rfl
   ·exact Int.le_refl _
   ·rw [← hx1,← hx2,hy1,hy2];omega
 clear f0 fC f2 f3 f8 w1 w2 w3 w4 w5 hx1 hx2 x1 x2 fr
 rintro fr st2 ⟨rfl,⟨f0,fC⟩,f2,f3,f8,ch,f9,hch,hchi,hmax⟩
 obtain ⟨x1,hx1⟩:∃ x:Nat,x=f+ch:=⟨_,rfl⟩
 have w4:IntKind.i64.wrap ((f:Int)+(ch:Int))=(x1:Int):=by rw [wrap_i64 _ (by omega) (by omega)];omega
 have hd1:=ws_drop en ec c x1 (by omega)
 have hd0:=ws_drop en ec c x0 (by omega)
 have hl1:x1 < l.length:=by omega
 have hl0:x0 < l.length:=by omega
 unfold MaxC at hmax
 have hstep:=hX.step (c:=ch) hlr hch hchi (by omega) hmax
 have hpm1:=hpm.step x0 x1 (by omega) (by omega) (by omega) (by omega) (by omega)
 have hbig:=hX.big
 rw [← hx0,← hx1] at hstep
 rw [← hx0] at hbig
 rw [← hx1] at hmax
 generalize hy0:c.getD x0 0=y0 at *
 generalize hy1:c.getD x1 0=y1 at *
 (repeat (refine qS ?_));(refine w_s [] [q] [(0,true),(1,true),(2,true),(3,true),(4,true),(5,true),(6,true),(7,true),(8,true),(9,true),(10,true),(11,true),(12,true),(13,false),(14,true),(15,true)] ?_;intro J hJ;simp [f0,fC,f2,f3,f8,f9,w4,w6,hl1,hl0,hcl,hd1,hd0])
 refine dcallK_of (hC.call y0 y1 _ (by first | assumption | (subst_vars;exact dm_get (by assumption) (by omega))) (by first | assumption | (subst_vars;exact dm_get (by assumption) (by omega)))) ?_;rintro r1 s2 ⟨⟨nv,rfl,hnv⟩,rfl⟩
 refine ⟨fun _=>by simp,?_⟩
 by_cases hyy:y0 < y1
 rotate_left
 ·clear hJJ
  (refine d_go ?_;simp [hnv,hyy];(refine hJ _ _ ?_;clear hJ J;simp only [ak,reduceIte]))
  (repeat' (first | (refine qR ?_;simp only [ak,reduceIte];simp []) | (refine qC ?_;simp [])))
  exact ⟨c,rfl,hpm,hbig fun x h1 h2=>by have:=hmax x h1 h2;omega⟩
 (refine d_go ?_;simp [hnv,hyy];(refine hJ _ _ ?_;clear hJ J;simp only [ak,reduceIte]))
 (repeat' (first | refine qS ?_ | (refine qK ?_;simp only [ak,reduceIte]) | (refine qC ?_;simp [])))
 (refine w_s [] [q] [(0,true),(1,true),(2,true),(3,true),(4,true),(5,true),(6,true),(7,true),(8,true),(9,true),(10,true),(11,true),(12,true),(13,true),(14,true),(15,true),(16,true),(17,true),(18,true),(19,true),(20,true),(21,false),(22,true),(23,false)] ?_;intro J hJ;simp [f0,fC,f2,f3,f8,f9,w4,w6,hl1,hl0,hcl,hd1,hd0];(repeat refine ca ?_);(refine hJ _ _ ?_;clear hJ J;simp only [ak,reduceIte]))
 (repeat' (refine w_e [] ?_;intro J hJ;simp only [];simp [f9];(refine hJ _ _ ?_;clear hJ J;simp only [ak,reduceIte])))
 exact hJJ (hi - ch) _ _ (by omega) ⟨ch,sw c x0 x1,by omega,by omega,rfl,by simp [f0,fC],by simp [f2],by simp [f3],by simp,bx_sw en ec st q c x0 x1 (by omega) (by omega) hy0 hy1,hpm1,hstep hyy⟩
def Last (c:List Int) (f j hi:Nat):Prop:=∀ p q,p < q→j≤q→q < hi→c.getD (f+p) 0≤c.getD (f+q) 0
theorem heapSort {fid:FuncId} {caps:List LV} {en:Int→Nat} {ec:Int→List LV} {Dm:Int→Prop} (hC:CmpW fid caps en ec Dm) (l:List Int) (q a b:Nat) (st:St) (hD:∀ x∈l,Dm x) (hl:small l) (ha:a < b) (hb:b≤l.length) (hH:st.H q=.box 23 1 (ws en ec l)):
 ACalls Tryz.prog 49 [.ms q 0 l.length,i a,i b,.fn (.func fid) caps] st fun r st'=>∃ c,st'=bx en ec st q c∧Pm a b l c∧Srt a b c:=by
 have hsm:=hl
 unfold small at hl
 obtain ⟨n,hn⟩:∃ n:Nat,n=b - a:=⟨_,rfl⟩
 obtain ⟨n1,hn1⟩:∃ n:Nat,n=b - a - 1:=⟨_,rfl⟩
 obtain ⟨n2,hn2⟩:∃ n:Nat,n=n1 / 2:=⟨_,rfl⟩
 have w1:IntKind.i64.wrap ((b:Int) - (a:Int))=(n:Int):=by rw [wrap_i64 _ (by omega) (by omega)];omega
 have w2:IntKind.i64.wrap ((n:Int) - 1)=(n1:Int):=by rw [wrap_i64 _ (by omega) (by omega)];omega
 have w3:IntKind.i64.wrap ((n1:Int) / 2)=(n2:Int):=by
  rw [show (n1:Int) / 2=((n1 / 2:Nat):Int) from rfl,← hn2]
  exact wrap_i64 _ (by omega) (by omega)
 refine qO tabOk Tryz.func49 rfl rfl Tryz.ntmps49 (rs:=[]) rfl (by simp) ?_
 (repeat' (first | refine qS ?_ | refine qB ?_ | (refine w_e [] ?_;intro J hJ;simp only [];simp [w1,w2,w3];(refine hJ _ _ ?_;clear hJ J;simp only [ak,reduceIte]))))
 refine qL (fun m fr st'=>∃ (c:List Int),m≤n2+1∧(fr 0=.ms q 0 l.length∧fr 3=.fn (.func fid) caps)∧fr 8=i a∧fr 9=i 0∧fr 10=i n∧fr 11=i ((m:Int) - 1)∧st'=bx en ec st q c∧Pm a b l c∧Heap m n a c) (n2+1) ?_ ?_
 ·exact ⟨l,by omega,by simp,by simp,by simp,by simp,by simp,bx_self hH,.refl,fun k x h1 h2 h3=>by omega⟩
 rintro m fr st1 ⟨c,hm,⟨f0,fC⟩,f6,f7,f8,f9,rfl,hpm,hh⟩ JJ hJJ
 have hcl:=hpm.len
 have hDc:=dm_pm hD hpm
 cases m with
 | succ m=>
   have f9':fr 11=i (m:Int):=by rw [f9];congr 2;omega
   have w4:IntKind.i64.wrap ((m:Int) - 1)=(m:Int) - 1:=wrap_i64 _ (by omega) (by omega)
   have hge:(0:Int)≤(m:Int):=by omega
   (repeat' (first | refine qS ?_ | refine qB ?_ | (refine qK ?_;simp only [ak,reduceIte]) | (refine qC ?_;simp [f0,fC,f6,f7,f8,f9',hge]) | (refine w_e [] ?_;intro J hJ;simp only [];simp [f0,fC,f6,f7,f8,f9',hge];(try (refine hJ _ _ ?_;clear hJ J;simp only [ak,reduceIte])))))
   rw [← hcl]
   refine qF (siftDown hC c q m n a _ (by first | assumption | exact dm_pm hD ‹Pm _ _ l c›) (by unfold small;omega) (by omega) (by omega) hh (by simp)) ?_
   rintro r s2 ⟨c2,rfl,hpm2,hh2⟩
   rw [hcl]
   (repeat' ((first | (refine w_e [] ?_;intro J hJ;simp only []) | (refine e_go ?_));simp [f9',w4];(refine hJ _ _ ?_;clear hJ J;simp only [ak,reduceIte])))
   exact hJJ m _ _ (by omega) ⟨c2,by omega,by simp [f0,fC],by simp [f6],by simp [f7],by simp [f8],by simp,St.set_set _ _ _ _,hpm.trans (hpm2.wide (by omega) (by omega) (by omega)),hh2⟩
 | zero=>
   clear hJJ
   have f9':fr 11=i (-1):=by rw [f9];rfl
   (repeat' (first | refine qS ?_ | refine qB ?_ | (refine qX ?_;simp only [ak,reduceIte]) | (refine qC ?_;simp [f0,fC,f6,f7,f8,f9',w2]) | (refine w_e [] ?_;intro J hJ;simp only [];simp [f0,fC,f6,f7,f8,f9',w2];(refine hJ _ _ ?_;clear hJ J;simp only [ak,reduceIte]))))
   refine qL (fun m fr st'=>∃ (c:List Int),m≤n∧(fr 0=.ms q 0 l.length∧fr 3=.fn (.func fid) caps)∧fr 8=i a∧fr 9=i 0∧fr 12=i ((m:Int) - 1)∧st'=bx en ec st q c∧Pm a b l c∧Heap 0 m a c∧Last c a m n) n ?_ ?_
   ·exact ⟨c,Nat.le_refl _,by simp [f0,fC],by simp [f6],by simp [f7],by simp;omega,rfl,hpm,hh,fun p q h1 h2 h3=>by omega⟩
   clear f0 fC f6 f7 f8 f9 f9' hpm hh hcl hDc c fr
   rintro m fr st1 ⟨c,hm,⟨f0,fC⟩,f6,f7,f10,rfl,hpm,hh,hla⟩ JJ hJJ
   have hcl:=hpm.len
   have hDc:=dm_pm hD hpm
   cases m with
   | zero=>
     have f10':fr 12=i (-1):=by rw [f10];rfl
     (repeat' (first | refine qS ?_ | (refine qX ?_;simp only [ak,reduceIte]) | (refine qC ?_;simp [f10']) | (refine w_e [] ?_;intro J hJ;simp only [];simp [f10'];(refine hJ _ _ ?_;clear hJ J;simp only [ak,reduceIte]))))
     refine ⟨trivial,c,rfl,hpm,fun p q h1 h2 h3=>?_⟩
     have:=hla (p - a) (q - a) (by omega) (by omega) (by omega)
     rwa [show a+(p - a)=p by omega,show a+(q - a)=q by omega] at this
   | succ m=>
     have f10':fr 12=i (m:Int):=by rw [f10];congr 2;omega
     have w4:IntKind.i64.wrap ((m:Int) - 1)=(m:Int) - 1:=wrap_i64 _ (by omega) (by omega)
     have hge:(0:Int)≤(m:Int):=by omega
     obtain ⟨x1,hx1⟩:∃ x:Nat,x=a+m:=⟨_,rfl⟩
     have w5:IntKind.i64.wrap ((a:Int)+(m:Int))=(x1:Int):=by rw [wrap_i64 _ (by omega) (by omega)];omega
     have hd0:=ws_drop en ec c a (by omega)
     have hd1:=ws_drop en ec c x1 (by omega)
     have hl0:a < l.length:=by omega
     have hl1:x1 < l.length:=by omega
     have hpop:=hh.pop (by omega)
     have hnext:=fun c2=>heap_next (c2:=c2) hh hla (by omega) (by omega)
     have hpm1:=hpm.step a x1 (by omega) (by omega) (by omega) (by omega) (by omega)
     rw [← hx1] at hpop hnext
     have hsl:=sw_length c a x1
     have hsw:=fun x y=>bx_sw en ec st q c a x1 (x:=x) (y:=y) (by omega) (by omega)
     generalize hy0:c.getD a 0=y0 at *
     generalize hy1:c.getD x1 0=y1 at *
     have hsw':=hsw y0 y1 rfl rfl
     (repeat' (first | refine qS ?_ | refine qB ?_ | (refine qK ?_;simp only [ak,reduceIte]) | (refine qC ?_;simp [f0,fC,f6,f7,f10',hge]) | (refine w_e [] ?_;intro J hJ;simp only [];simp [f0,fC,f6,f7,f10',hge];(refine hJ _ _ ?_;clear hJ J;simp only [ak,reduceIte]))))
     (refine w_s [] [q] [(0,true),(1,true),(2,true),(3,true),(4,true),(5,true),(6,true),(7,true),(8,true),(9,true),(10,true),(11,true),(12,true),(13,true),(14,true),(15,true),(16,true),(17,false),(18,true),(19,false)] ?_;intro J hJ;simp [f0,fC,f6,f7,f10',w5,hl0,hl1,hcl,hd0,hd1];(repeat refine ca ?_);(refine hJ _ _ ?_;clear hJ J;simp only [ak,reduceIte]))
     rw [hsw']
     generalize hc1:sw c a x1=c1 at *
     (repeat' (refine w_e [] ?_;intro J hJ;simp only [];simp [f0,fC,f6,f7,f10']))
     rw [← hcl,← hsl]
     refine qF (siftDown hC c1 q 0 m a _ (by first | assumption | exact dm_pm hD ‹Pm _ _ l c1›) (by unfold small;omega) (by omega) (by omega) hpop (by simp)) ?_
     rintro r s2 ⟨c2,rfl,hpm2,hh2⟩
     rw [hsl,hcl]
     (repeat' ((first | (refine w_e [] ?_;intro J hJ;simp only []) | (refine e_go ?_));simp [f10',w4];(refine hJ _ _ ?_;clear hJ J;simp only [ak,reduceIte])))
     exact hJJ m _ _ (by omega) ⟨c2,by omega,by simp [f0,fC],by simp [f6],by simp [f7],by simp,St.set_set _ _ _ _,hpm1.trans (hpm2.wide (by omega) (by omega) (by omega)),hh2,hnext c2 (by rw [hx1];exact hpm2)⟩
def StU (P:Int→Bool) (c:List Int) (ii jj:Nat):Prop:=ii≤jj→P (c.getD ii 0)=false
def StD (P:Int→Bool) (c:List Int) (ii kk:Nat):Prop:=ii≤kk→P (c.getD kk 0)=true
theorem partition {fid:FuncId} {caps:List LV} {en:Int→Nat} {ec:Int→List LV} {Dm:Int→Prop} (hC:CmpW fid caps en ec Dm) (l:List Int) (q a b pv:Nat) (st:St) (hD:∀ x∈l,Dm x) (hl:small l) (hab:a < b) (hb:b≤l.length) (hp1:a≤pv) (hp2:pv < b) (hH:st.H q=.box 23 1 (ws en ec l)):
 ACalls Tryz.prog 55 [.ms q 0 l.length,i a,i b,i pv,.fn (.func fid) caps] st fun r st'=>∃ (c:List Int) (mid:Nat) (p:Bool),r=.tu [i mid,bb p]∧st'=bx en ec st q c∧Pm a b l c∧a≤mid∧mid < b∧PartedAt c a mid b:=by
 unfold small at hl
 refine qO tabOk Tryz.func55 rfl rfl Tryz.ntmps55 (rs:=[.tmp 10,.tmp 11]) rfl (by simp) ?_
 (repeat (refine qS ?_));(refine w_e [] ?_;intro J hJ;simp only [];simp [];(refine hJ _ _ ?_;clear hJ J;simp only [ak,reduceIte]))
 have hla:a < l.length:=by omega
 have hlp:pv < l.length:=by omega
 have hsw:=fun x y=>bx_sw' en ec st q l a pv (x:=x) (y:=y) (by omega) (by omega)
 have hd0:=ws_drop en ec l a (by omega)
 have hd1:=ws_drop en ec l pv (by omega)
 have hpm:Pm a b l (sw l a pv):=Pm.one a pv (by omega) (by omega) (by omega) (by omega) (by omega)
 have hx:(sw l a pv).getD a 0=l.getD pv 0:=by
  rw [sw_get _ _ _ _ (by omega) (by omega)]
  by_cases e:a=pv
  ·rw [if_pos e,e]
  ·rw [if_neg e,if_pos rfl]
 generalize hy0:l.getD a 0=y0 at *
 generalize hy1:l.getD pv 0=x at *
 have hsw':=hsw y0 x rfl rfl
 (repeat (refine qS ?_));(refine w_s [] [q] [(0,true),(1,true),(2,true),(3,true),(4,true),(5,true),(6,true),(7,true),(8,true),(9,true),(10,true),(11,true),(12,true),(13,false),(14,true),(15,false)] ?_;intro J hJ;simp [hH,hla,hlp,hd0,hd1];(repeat refine ca ?_);(refine hJ _ _ ?_;clear hJ J;simp only [ak,reduceIte]))
 rw [hsw']
 clear hsw hsw' hd0 hd1 hy0
 generalize hc:sw l a pv=c at *
 clear hc
 have hcl:=hpm.len
 have hDc:=dm_pm hD hpm
 have w1:=qN a (by omega)
 have w2:=nat_sub_one b (by omega) (by omega)
 obtain ⟨P,hPd⟩:∃ P:Int→Bool,∀ v,P v=decide (v < x):=⟨_,fun _=>rfl⟩
 refine qS ?_
 refine awp_cut1 (fun fr st2=>(fr 0=.ms q 0 l.length∧fr 4=.fn (.func fid) caps)∧fr 1=i a∧fr 12=i ((a+1:Nat):Int)∧fr 13=i ((b - 1:Nat):Int)∧st2=bx en ec st q c) (by (refine w_e [] ?_;intro J hJ;simp only [];simp [w1,w2];(refine hJ _ _ ?_;clear hJ J;simp only [ak,reduceIte]));simp) ?_
 rintro fr st2 ⟨⟨f0,fC⟩,f1,fI,fJ,rfl⟩
 have hai:a < a+1:=by omega
 have hij:a+1≤b - 1+1:=by omega
 have hjb:b - 1 < b:=by omega
 have hLo:Lo P c a (a+1):=fun p h1 h2=>by omega
 have hHi:Hi P c (b - 1) b:=fun p h1 h2=>by omega
 generalize a+1=ii at *
 generalize b - 1=jj at *
 clear w1 w2
 have hd0:=ws_drop en ec c a (by omega)
 rw [hx] at hd0
 refine qS ?_
 refine awp_cut1 (fun fr st2=>∃ ii:Nat,a < ii∧ii≤jj+1∧(fr 0=.ms q 0 l.length∧fr 4=.fn (.func fid) caps)∧fr 1=i a∧fr 12=i ii∧fr 13=i jj∧st2=bx en ec st q c∧Lo P c a ii∧StU P c ii jj) ?_ ?_
 ·refine qB ?_
  refine qL (fun m fr st2=>∃ ii:Nat,a < ii∧ii≤jj+1∧m=jj+1 - ii∧(fr 0=.ms q 0 l.length∧fr 4=.fn (.func fid) caps)∧fr 1=i a∧fr 12=i ii∧fr 13=i jj∧st2=bx en ec st q c∧Lo P c a ii) (jj+1 - ii) ?_ ?_
  ·exact ⟨ii,by omega,by omega,rfl,by simp [f0,fC],by simp [f1],by simp [fI],by simp [fJ],rfl,hLo⟩
  clear f0 fC f1 fI fJ hLo hai hij fr ii
  rintro m fr st2 ⟨ii,hai,hij,rfl,⟨f0,fC⟩,f1,fI,fJ,rfl,hLo⟩ JJ hJJ
  have hia:=qN ii (by omega)
  by_cases hle:ii≤jj
  rotate_left
  ·clear hJJ
   (repeat (refine qS ?_));(refine w_s [] [q] [(0,true),(1,true),(2,true),(3,true),(4,true),(5,true),(6,true),(7,true),(8,true),(9,true),(10,true),(11,true),(12,true),(13,false),(14,true),(15,true)] ?_;intro J hJ;simp [f0,fC,f1,fI,fJ,hle];(refine hJ _ _ ?_;clear hJ J;simp only [ak,reduceIte]))
   (repeat' (first | (refine qX ?_;simp only [ak,reduceIte]) | (refine qC ?_;simp [])))
   exact ⟨trivial,ii,by omega,by omega,by simp [f0,fC],by simp [f1],by simp [fI],by simp [fJ],by trivial,hLo,fun h=>absurd h hle⟩
  have hli:ii < l.length:=by omega
  have hd1:=ws_drop en ec c ii (by omega)
  have hmo:=hLo.more
  generalize hy:c.getD ii 0=y at *
  (repeat (refine qS ?_));(refine w_s [] [q] [(0,true),(1,true),(2,true),(3,true),(4,true),(5,true),(6,true),(7,true),(8,true),(9,true),(10,true),(11,true),(12,true),(13,false),(14,true),(15,true)] ?_;intro J hJ;simp [f0,fC,f1,fI,fJ,hle,hli,hla,hcl,hd0,hd1])
  refine dcallK_of (hC.call y x _ (by first | assumption | (subst_vars;exact dm_get (by assumption) (by omega))) (by first | assumption | (subst_vars;exact dm_get (by assumption) (by omega)))) ?_;rintro r s2 ⟨⟨nv,rfl,hnv⟩,rfl⟩
  refine ⟨fun _=>by simp,?_⟩
  have hP:=hPd y
  by_cases hyx:y < x
  ·(refine d_go ?_;simp [hnv,hyx];(refine hJ _ _ ?_;clear hJ J;simp only [ak,reduceIte]))
   (repeat' (first | refine qB ?_ | (refine qK ?_;simp only [ak,reduceIte]) | (refine qC ?_;simp [fI,hia]) | (refine w_e [] ?_;intro J hJ;simp only [];simp [fI,hia];(refine hJ _ _ ?_;clear hJ J;simp only [ak,reduceIte]))))
   exact hJJ (jj+1 - (ii+1)) _ _ (by omega) ⟨ii+1,by omega,by omega,rfl,by simp [f0,fC],by simp [f1],by simp,by simp [fJ],rfl,hmo (by rw [hP];simp [hyx])⟩
  ·clear hJJ
   (refine d_go ?_;simp [hnv,hyx];(refine hJ _ _ ?_;clear hJ J;simp only [ak,reduceIte]))
   (repeat' (first | (refine qX ?_;simp only [ak,reduceIte]) | (refine qC ?_;simp [])))
   exact ⟨trivial,ii,by omega,by omega,by simp [f0,fC],by simp [f1],by simp [fI],by simp [fJ],by trivial,hLo,fun _=>by rw [hy,hP];simp [hyx]⟩
 clear f0 fC f1 fI fJ hLo hai hij fr ii
 rintro fr st2 ⟨ii,hai,hij,⟨f0,fC⟩,f1,fI,fJ,rfl,hLo,hst⟩
 refine qS ?_
 refine awp_cut1 (fun fr st2=>∃ kk:Nat,a≤kk∧kk≤jj∧ii≤kk+1∧(fr 0=.ms q 0 l.length∧fr 4=.fn (.func fid) caps)∧fr 1=i a∧fr 12=i ii∧fr 13=i kk∧st2=bx en ec st q c∧Hi P c kk b∧StD P c ii kk) ?_ ?_
 ·refine qB ?_
  refine qL (fun m fr st2=>∃ kk:Nat,a≤kk∧kk≤jj∧ii≤kk+1∧kk=m∧(fr 0=.ms q 0 l.length∧fr 4=.fn (.func fid) caps)∧fr 1=i a∧fr 12=i ii∧fr 13=i kk∧st2=bx en ec st q c∧Hi P c kk b) jj ?_ ?_
  ·exact ⟨jj,by omega,by omega,by omega,rfl,by simp [f0,fC],by simp [f1],by simp [fI],by simp [fJ],rfl,hHi⟩
  clear f0 fC f1 fI fJ hHi fr
  rintro m fr st2 ⟨kk,hak,hkj,hik,rfl,⟨f0,fC⟩,f1,fI,fJ,rfl,hHi⟩ JJ hJJ
  by_cases hle:ii≤kk
  rotate_left
  ·clear hJJ
   (repeat (refine qS ?_));(refine w_s [] [q] [(0,true),(1,true),(2,true),(3,true),(4,true),(5,true),(6,true),(7,true),(8,true),(9,true),(10,true),(11,true),(12,true),(13,false),(14,true),(15,true),(16,true)] ?_;intro J hJ;simp [f0,fC,f1,fI,fJ,hle];(refine hJ _ _ ?_;clear hJ J;simp only [ak,reduceIte]))
   (repeat' (first | (refine qX ?_;simp only [ak,reduceIte]) | (refine qC ?_;simp [])))
   exact ⟨trivial,kk,by omega,by omega,by omega,by simp [f0,fC],by simp [f1],by simp [fI],by simp [fJ],by trivial,hHi,fun h=>absurd h hle⟩
  have hja:=nat_sub_one kk (by omega) (by omega)
  have hlj:kk < l.length:=by omega
  have hd1:=ws_drop en ec c kk (by omega)
  have hmo:=hHi.more
  generalize hy:c.getD kk 0=y at *
  (repeat (refine qS ?_));(refine w_s [] [q] [(0,true),(1,true),(2,true),(3,true),(4,true),(5,true),(6,true),(7,true),(8,true),(9,true),(10,true),(11,true),(12,true),(13,false),(14,true),(15,true),(16,true)] ?_;intro J hJ;simp [f0,fC,f1,fI,fJ,hle,hlj,hla,hcl,hd0,hd1])
  refine dcallK_of (hC.call y x _ (by first | assumption | (subst_vars;exact dm_get (by assumption) (by omega))) (by first | assumption | (subst_vars;exact dm_get (by assumption) (by omega)))) ?_;rintro r s2 ⟨⟨nv,rfl,hnv⟩,rfl⟩
  refine ⟨fun _=>by simp,?_⟩
  have hP:=hPd y
  by_cases hyx:y < x
  ·clear hJJ
   (refine d_go ?_;simp [hnv,hyx];(refine hJ _ _ ?_;clear hJ J;simp only [ak,reduceIte]))
   (repeat' (first | (refine qX ?_;simp only [ak,reduceIte]) | (refine qC ?_;simp [])))
   exact ⟨trivial,kk,by omega,by omega,by omega,by simp [f0,fC],by simp [f1],by simp [fI],by simp [fJ],by trivial,hHi,fun _=>by rw [hy,hP];simp [hyx]⟩
  ·(refine d_go ?_;simp [hnv,hyx];(refine hJ _ _ ?_;clear hJ J;simp only [ak,reduceIte]))
   (repeat' (first | refine qB ?_ | (refine qK ?_;simp only [ak,reduceIte]) | (refine qC ?_;simp [fJ,hja]) | (refine w_e [] ?_;intro J hJ;simp only [];simp [fJ,hja];(refine hJ _ _ ?_;clear hJ J;simp only [ak,reduceIte]))))
   exact hJJ (kk - 1) _ _ (by omega) ⟨kk - 1,by omega,by omega,by omega,rfl,by simp [f0,fC],by simp [f1],by simp [fI],by simp,rfl,hmo (by omega) (by rw [hP];simp [hyx])⟩
 clear f0 fC f1 fI fJ hHi fr
 rintro fr st2 ⟨kk,hak,hkj,hik,⟨f0,fC⟩,f1,fI,fJ,rfl,hHi,hst2⟩
 by_cases hle:ii≤kk
 rotate_left
 ·have hke:ii=kk+1:=by omega
  have hpl:=parted_last (hke ▸ hLo) hHi (by omega) (by omega) (by omega)
  have hpm2:=hpm.step kk a (by omega) (by omega) (by omega) (by omega) (by omega)
  have hlk:kk < l.length:=by omega
  have hd1:=ws_drop en ec c kk (by omega)
  have hsw:=fun x y=>bx_sw en ec st q c kk a (x:=x) (y:=y) (by omega) (by omega)
  generalize hy1:c.getD kk 0=y1 at *
  have hsw':=hsw y1 x rfl hx
  (repeat' (first | refine qS ?_ | (refine qC ?_;simp [f0,fC,f1,fI,fJ,hle];(try with_reducible intro hc)) | (refine w_e [] ?_;intro J hJ;simp only [];simp [f0,fC,f1,fI,fJ,hle];(refine hJ _ _ ?_;clear hJ J;simp only [ak,reduceIte]))))
  (refine w_s [] [q] [(0,true),(1,true),(2,true),(3,true),(4,true),(5,true),(6,true),(7,true),(8,true),(9,true),(10,true),(11,true),(12,true),(13,false),(14,true),(15,false)] ?_;intro J hJ;simp [f0,fC,f1,fI,fJ,hla,hlk,hcl,hd0,hd1];(repeat refine ca ?_);(refine hJ _ _ ?_;clear hJ J;simp only [ak,reduceIte]))
  (repeat' (first | refine qS ?_ | (refine qR ?_;simp only [ak,reduceIte];simp [f0,fC,f1,fI,fJ]) | (refine w_e [] ?_;intro J hJ;simp only [];simp [f0,fC,f1,fI,fJ];(refine hJ _ _ ?_;clear hJ J;simp only [ak,reduceIte]))))
  exact ⟨_,kk,rfl,hsw',hpm2,by omega,by omega,by unfold PartedAt;rw [hpl.2,hx];have h:=hpl.1;rwa [show P=_ from funext hPd] at h⟩
 have hik2:ii < kk:=by
  rcases Nat.lt_or_ge ii kk with h | h
  ·exact h
  ·exfalso
   have e:ii=kk:=by omega
   have h1:=hst (by omega)
   have h2:=hst2 hle
   rw [e,h2] at h1;cases h1
 have hLo2:=hLo.swp hik2 (by omega) (hst2 hle)
 have hHi2:=hHi.swp hik2 (by omega) (hst (by omega))
 have hpm2:=hpm.step ii kk (by omega) (by omega) (by omega) (by omega) (by omega)
 have hxx:(sw c ii kk).getD a 0=x:=by rw [sw_get _ _ _ _ (by omega) (by omega),if_neg (by omega),if_neg (by omega)];exact hx
 have hli:ii < l.length:=by omega
 have hlk:kk < l.length:=by omega
 have hd1:=ws_drop en ec c ii (by omega)
 have hd2:=ws_drop en ec c kk (by omega)
 have hsw:=fun x y=>bx_sw en ec st q c ii kk (x:=x) (y:=y) (by omega) (by omega)
 have hia:=qN ii (by omega)
 have hka:=nat_sub_one kk (by omega) (by omega)
 clear hst hst2
 generalize hy1:c.getD ii 0=y1 at *
 generalize hy2:c.getD kk 0=y2 at *
 have hsw':=hsw y1 y2 rfl rfl
 (repeat' (first | refine qS ?_ | (refine qK ?_;simp only [ak,reduceIte]) | (refine qC ?_;simp [f0,fC,f1,fI,fJ,hle];(try with_reducible refine ⟨?_,?_⟩)<;>(try with_reducible intro hc)<;>try (exfalso;omega)) | (refine w_e [] ?_;intro J hJ;simp only [];simp [f0,fC,f1,fI,fJ,hle];(refine hJ _ _ ?_;clear hJ J;simp only [ak,reduceIte]))))
 (refine w_s [] [q] [(0,true),(1,true),(2,true),(3,true),(4,true),(5,true),(6,true),(7,true),(8,true),(9,true),(10,true),(11,true),(12,true),(13,false),(14,true),(15,false)] ?_;intro J hJ;simp [f0,fC,f1,fI,fJ,hli,hlk,hcl,hd1,hd2];(repeat refine ca ?_);(refine hJ _ _ ?_;clear hJ J;simp only [ak,reduceIte]))
 (repeat' (first | refine qS ?_ | refine qB ?_ | (refine w_e [] ?_;intro J hJ;simp only [];simp [fI,fJ,hia,hka];(refine hJ _ _ ?_;clear hJ J;simp only [ak,reduceIte]))))
 rw [hsw']
 refine qL (fun m fr st2=>∃ (ii jj:Nat) (c:List Int),a < ii∧ii≤jj+1∧jj < b∧jj=m∧(fr 0=.ms q 0 l.length∧fr 4=.fn (.func fid) caps)∧fr 1=i a∧fr 12=i ii∧fr 13=i jj∧st2=bx en ec st q c∧Pm a b l c∧c.getD a 0=x∧Lo P c a ii∧Hi P c jj b) (kk - 1) ?_ ?_
 ·exact ⟨ii+1,kk - 1,sw c ii kk,by omega,by omega,by omega,rfl,by simp [f0,fC],by simp [f1],by simp,by simp,rfl,hpm2,hxx,hLo2,hHi2⟩
 clear f0 fC f1 fI fJ hLo hHi hLo2 hHi2 hpm hpm2 hx hxx hcl hDc hd0 hd1 hd2 hsw hsw' hy1 hy2 y1 y2 hai hij hak hik hik2 hli hlk hia hka hle hkj hjb ii jj kk c fr
 rintro m fr st2 ⟨ii,jj,c,hai,hij,hjb,rfl,⟨f0,fC⟩,f1,fI,fJ,rfl,hpm,hx,hLo,hHi⟩ JJ0 hJ0
 have hcl:=hpm.len
 have hDc:=dm_pm hD hpm
 have hd0:=ws_drop en ec c a (by omega)
 rw [hx] at hd0
 refine qB ?_
 refine qS ?_
 refine awp_cut1 (fun fr st2=>∃ ii:Nat,a < ii∧ii≤jj+1∧(fr 0=.ms q 0 l.length∧fr 4=.fn (.func fid) caps)∧fr 1=i a∧fr 12=i ii∧fr 13=i jj∧st2=bx en ec st q c∧Lo P c a ii∧StU P c ii jj) ?_ ?_
 ·refine qB ?_
  refine qL (fun m fr st2=>∃ ii:Nat,a < ii∧ii≤jj+1∧m=jj+1 - ii∧(fr 0=.ms q 0 l.length∧fr 4=.fn (.func fid) caps)∧fr 1=i a∧fr 12=i ii∧fr 13=i jj∧st2=bx en ec st q c∧Lo P c a ii) (jj+1 - ii) ?_ ?_
  ·exact ⟨ii,by omega,by omega,rfl,by simp [f0,fC],by simp [f1],by simp [fI],by simp [fJ],rfl,hLo⟩
  clear f0 fC f1 fI fJ hLo hai hij fr ii
  rintro m fr st2 ⟨ii,hai,hij,rfl,⟨f0,fC⟩,f1,fI,fJ,rfl,hLo⟩ JJ hJJ
  have hia:=qN ii (by omega)
  by_cases hle:ii≤jj
  rotate_left
  ·clear hJJ
   (repeat (refine qS ?_));(refine w_s [] [q] [(0,true),(1,true),(2,true),(3,true),(4,true),(5,true),(6,true),(7,true),(8,true),(9,true),(10,true),(11,true),(12,true),(13,false),(14,true),(15,true)] ?_;intro J hJ;simp [f0,fC,f1,fI,fJ,hle];(refine hJ _ _ ?_;clear hJ J;simp only [ak,reduceIte]))
   (repeat' (first | (refine qX ?_;simp only [ak,reduceIte]) | (refine qC ?_;simp [])))
   exact ⟨trivial,ii,by omega,by omega,by simp [f0,fC],by simp [f1],by simp [fI],by simp [fJ],by trivial,hLo,fun h=>absurd h hle⟩
  have hli:ii < l.length:=by omega
  have hd1:=ws_drop en ec c ii (by omega)
  have hmo:=hLo.more
  generalize hy:c.getD ii 0=y at *
  (repeat (refine qS ?_));(refine w_s [] [q] [(0,true),(1,true),(2,true),(3,true),(4,true),(5,true),(6,true),(7,true),(8,true),(9,true),(10,true),(11,true),(12,true),(13,false),(14,true),(15,true)] ?_;intro J hJ;simp [f0,fC,f1,fI,fJ,hle,hli,hla,hcl,hd0,hd1])
  refine dcallK_of (hC.call y x _ (by first | assumption | (subst_vars;exact dm_get (by assumption) (by omega))) (by first | assumption | (subst_vars;exact dm_get (by assumption) (by omega)))) ?_;rintro r s2 ⟨⟨nv,rfl,hnv⟩,rfl⟩
  refine ⟨fun _=>by simp,?_⟩
  have hP:=hPd y
  by_cases hyx:y < x
  ·(refine d_go ?_;simp [hnv,hyx];(refine hJ _ _ ?_;clear hJ J;simp only [ak,reduceIte]))
   (repeat' (first | refine qB ?_ | (refine qK ?_;simp only [ak,reduceIte]) | (refine qC ?_;simp [fI,hia]) | (refine w_e [] ?_;intro J hJ;simp only [];simp [fI,hia];(refine hJ _ _ ?_;clear hJ J;simp only [ak,reduceIte]))))
   exact hJJ (jj+1 - (ii+1)) _ _ (by omega) ⟨ii+1,by omega,by omega,rfl,by simp [f0,fC],by simp [f1],by simp,by simp [fJ],rfl,hmo (by rw [hP];simp [hyx])⟩
  ·clear hJJ
   (refine d_go ?_;simp [hnv,hyx];(refine hJ _ _ ?_;clear hJ J;simp only [ak,reduceIte]))
   (repeat' (first | (refine qX ?_;simp only [ak,reduceIte]) | (refine qC ?_;simp [])))
   exact ⟨trivial,ii,by omega,by omega,by simp [f0,fC],by simp [f1],by simp [fI],by simp [fJ],by trivial,hLo,fun _=>by rw [hy,hP];simp [hyx]⟩
 clear f0 fC f1 fI fJ hLo hai hij fr ii
 rintro fr st2 ⟨ii,hai,hij,⟨f0,fC⟩,f1,fI,fJ,rfl,hLo,hst⟩
 refine qS ?_
 refine awp_cut1 (fun fr st2=>∃ kk:Nat,a≤kk∧kk≤jj∧ii≤kk+1∧(fr 0=.ms q 0 l.length∧fr 4=.fn (.func fid) caps)∧fr 1=i a∧fr 12=i ii∧fr 13=i kk∧st2=bx en ec st q c∧Hi P c kk b∧StD P c ii kk) ?_ ?_
 ·refine qB ?_
  refine qL (fun m fr st2=>∃ kk:Nat,a≤kk∧kk≤jj∧ii≤kk+1∧kk=m∧(fr 0=.ms q 0 l.length∧fr 4=.fn (.func fid) caps)∧fr 1=i a∧fr 12=i ii∧fr 13=i kk∧st2=bx en ec st q c∧Hi P c kk b) jj ?_ ?_
  ·exact ⟨jj,by omega,by omega,by omega,rfl,by simp [f0,fC],by simp [f1],by simp [fI],by simp [fJ],rfl,hHi⟩
  clear f0 fC f1 fI fJ hHi fr
  rintro m fr st2 ⟨kk,hak,hkj,hik,rfl,⟨f0,fC⟩,f1,fI,fJ,rfl,hHi⟩ JJ hJJ
  by_cases hle:ii≤kk
  rotate_left
  ·clear hJJ
   (repeat (refine qS ?_));(refine w_s [] [q] [(0,true),(1,true),(2,true),(3,true),(4,true),(5,true),(6,true),(7,true),(8,true),(9,true),(10,true),(11,true),(12,true),(13,false),(14,true),(15,true),(16,true)] ?_;intro J hJ;simp [f0,fC,f1,fI,fJ,hle];(refine hJ _ _ ?_;clear hJ J;simp only [ak,reduceIte]))
   (repeat' (first | (refine qX ?_;simp only [ak,reduceIte]) | (refine qC ?_;simp [])))
   exact ⟨trivial,kk,by omega,by omega,by omega,by simp [f0,fC],by simp [f1],by simp [fI],by simp [fJ],by trivial,hHi,fun h=>absurd h hle⟩
  have hja:=nat_sub_one kk (by omega) (by omega)
  have hlj:kk < l.length:=by omega
  have hd1:=ws_drop en ec c kk (by omega)
  have hmo:=hHi.more
  generalize hy:c.getD kk 0=y at *
  (repeat (refine qS ?_));(refine w_s [] [q] [(0,true),(1,true),(2,true),(3,true),(4,true),(5,true),(6,true),(7,true),(8,true),(9,true),(10,true),(11,true),(12,true),(13,false),(14,true),(15,true),(16,true)] ?_;intro J hJ;simp [f0,fC,f1,fI,fJ,hle,hlj,hla,hcl,hd0,hd1])
  refine dcallK_of (hC.call y x _ (by first | assumption | (subst_vars;exact dm_get (by assumption) (by omega))) (by first | assumption | (subst_vars;exact dm_get (by assumption) (by omega)))) ?_;rintro r s2 ⟨⟨nv,rfl,hnv⟩,rfl⟩
  refine ⟨fun _=>by simp,?_⟩
  have hP:=hPd y
  by_cases hyx:y < x
  ·clear hJJ
   (refine d_go ?_;simp [hnv,hyx];(refine hJ _ _ ?_;clear hJ J;simp only [ak,reduceIte]))
   (repeat' (first | (refine qX ?_;simp only [ak,reduceIte]) | (refine qC ?_;simp [])))
   exact ⟨trivial,kk,by omega,by omega,by omega,by simp [f0,fC],by simp [f1],by simp [fI],by simp [fJ],by trivial,hHi,fun _=>by rw [hy,hP];simp [hyx]⟩
  ·(refine d_go ?_;simp [hnv,hyx];(refine hJ _ _ ?_;clear hJ J;simp only [ak,reduceIte]))
   (repeat' (first | refine qB ?_ | (refine qK ?_;simp only [ak,reduceIte]) | (refine qC ?_;simp [fJ,hja]) | (refine w_e [] ?_;intro J hJ;simp only [];simp [fJ,hja];(refine hJ _ _ ?_;clear hJ J;simp only [ak,reduceIte]))))
   exact hJJ (kk - 1) _ _ (by omega) ⟨kk - 1,by omega,by omega,by omega,rfl,by simp [f0,fC],by simp [f1],by simp [fI],by simp,rfl,hmo (by omega) (by rw [hP];simp [hyx])⟩
 clear f0 fC f1 fI fJ hHi fr
 rintro fr st2 ⟨kk,hak,hkj,hik,⟨f0,fC⟩,f1,fI,fJ,rfl,hHi,hst2⟩
 by_cases hle:ii≤kk
 rotate_left
 ·clear hJ0
  have hke:ii=kk+1:=by omega
  have hpl:=parted_last (hke ▸ hLo) hHi (by omega) (by omega) (by omega)
  have hpm2:=hpm.step kk a (by omega) (by omega) (by omega) (by omega) (by omega)
  have hlk:kk < l.length:=by omega
  have hd1:=ws_drop en ec c kk (by omega)
  have hsw:=fun x y=>bx_sw en ec st q c kk a (x:=x) (y:=y) (by omega) (by omega)
  generalize hy1:c.getD kk 0=y1 at *
  have hsw':=hsw y1 x rfl hx
  (repeat' (first | refine qS ?_ | (refine qX ?_;simp only [ak,reduceIte]) | (refine qC ?_;simp [f0,fC,f1,fI,fJ,hle];(try with_reducible intro hc)) | (refine w_e [] ?_;intro J hJ;simp only [];simp [f0,fC,f1,fI,fJ,hle];(refine hJ _ _ ?_;clear hJ J;simp only [ak,reduceIte]))))
  (refine w_s [] [q] [(0,true),(1,true),(2,true),(3,true),(4,true),(5,true),(6,true),(7,true),(8,true),(9,true),(10,true),(11,true),(12,true),(13,false),(14,true),(15,false)] ?_;intro J hJ;simp [f0,fC,f1,fI,fJ,hla,hlk,hcl,hd0,hd1];(repeat refine ca ?_);(refine hJ _ _ ?_;clear hJ J;simp only [ak,reduceIte]))
  (repeat' (first | refine qS ?_ | (refine qR ?_;simp only [ak,reduceIte];simp [f0,fC,f1,fI,fJ]) | (refine w_e [] ?_;intro J hJ;simp only [];simp [f0,fC,f1,fI,fJ];(refine hJ _ _ ?_;clear hJ J;simp only [ak,reduceIte]))))
  exact ⟨_,kk,rfl,hsw',hpm2,by omega,by omega,by unfold PartedAt;rw [hpl.2,hx];have h:=hpl.1;rwa [show P=_ from funext hPd] at h⟩
 have hik2:ii < kk:=by
  rcases Nat.lt_or_ge ii kk with h | h
  ·exact h
  ·exfalso
   have e:ii=kk:=by omega
   have h1:=hst (by omega)
   have h2:=hst2 hle
   rw [e,h2] at h1;cases h1
 have hLo2:=hLo.swp hik2 (by omega) (hst2 hle)
 have hHi2:=hHi.swp hik2 (by omega) (hst (by omega))
 have hpm2:=hpm.step ii kk (by omega) (by omega) (by omega) (by omega) (by omega)
 have hxx:(sw c ii kk).getD a 0=x:=by rw [sw_get _ _ _ _ (by omega) (by omega),if_neg (by omega),if_neg (by omega)];exact hx
 have hli:ii < l.length:=by omega
 have hlk:kk < l.length:=by omega
 have hd1:=ws_drop en ec c ii (by omega)
 have hd2:=ws_drop en ec c kk (by omega)
 have hsw:=fun x y=>bx_sw en ec st q c ii kk (x:=x) (y:=y) (by omega) (by omega)
 have hia:=qN ii (by omega)
 have hka:=nat_sub_one kk (by omega) (by omega)
 clear hst hst2
 generalize hy1:c.getD ii 0=y1 at *
 generalize hy2:c.getD kk 0=y2 at *
 have hsw':=hsw y1 y2 rfl rfl
 (repeat' (first | refine qS ?_ | (refine qK ?_;simp only [ak,reduceIte]) | (refine qC ?_;simp [f0,fC,f1,fI,fJ,hle];(try with_reducible refine ⟨?_,?_⟩)<;>(try with_reducible intro hc)<;>try (exfalso;omega)) | (refine w_e [] ?_;intro J hJ;simp only [];simp [f0,fC,f1,fI,fJ,hle];(refine hJ _ _ ?_;clear hJ J;simp only [ak,reduceIte]))))
 (refine w_s [] [q] [(0,true),(1,true),(2,true),(3,true),(4,true),(5,true),(6,true),(7,true),(8,true),(9,true),(10,true),(11,true),(12,true),(13,false),(14,true),(15,false)] ?_;intro J hJ;simp [f0,fC,f1,fI,fJ,hli,hlk,hcl,hd1,hd2];(repeat refine ca ?_);(refine hJ _ _ ?_;clear hJ J;simp only [ak,reduceIte]))
 (repeat' (first | refine qS ?_ | (refine w_e [] ?_;intro J hJ;simp only [];simp [fI,fJ,hia,hka];(refine hJ _ _ ?_;clear hJ J;simp only [ak,reduceIte]))))
 exact hJ0 (kk - 1) _ _ (by omega) ⟨ii+1,kk - 1,sw c ii kk,by omega,by omega,by omega,rfl,by simp [f0,fC],by simp [f1],by simp,by simp,hsw',hpm2,hxx,hLo2,hHi2⟩
theorem partitionEqual {fid:FuncId} {caps:List LV} {en:Int→Nat} {ec:Int→List LV} {Dm:Int→Prop} (hC:CmpW fid caps en ec Dm) (l:List Int) (q a b pv:Nat) (st:St) (hD:∀ x∈l,Dm x) (hl:small l) (hab:a < b) (hb:b≤l.length) (hp1:a≤pv) (hp2:pv < b) (hH:st.H q=.box 23 1 (ws en ec l)):
 ACalls Tryz.prog 54 [.ms q 0 l.length,i a,i b,i pv,.fn (.func fid) caps] st fun r st'=>∃ (c:List Int) (mid:Nat),r=i mid∧st'=bx en ec st q c∧Pm a b l c∧a < mid∧mid≤b∧PartedEq c a mid b (l.getD pv 0):=by
 unfold small at hl
 refine qO tabOk Tryz.func54 rfl rfl Tryz.ntmps54 (rs:=[.tmp 10]) rfl (by simp) ?_
 (repeat (refine qS ?_));(refine w_e [] ?_;intro J hJ;simp only [];simp [];(refine hJ _ _ ?_;clear hJ J;simp only [ak,reduceIte]))
 have hla:a < l.length:=by omega
 have hlp:pv < l.length:=by omega
 have hsw:=fun x y=>bx_sw' en ec st q l a pv (x:=x) (y:=y) (by omega) (by omega)
 have hd0:=ws_drop en ec l a (by omega)
 have hd1:=ws_drop en ec l pv (by omega)
 have hpm:Pm a b l (sw l a pv):=Pm.one a pv (by omega) (by omega) (by omega) (by omega) (by omega)
 have hx:(sw l a pv).getD a 0=l.getD pv 0:=by
  rw [sw_get _ _ _ _ (by omega) (by omega)]
  by_cases e:a=pv
  ·rw [if_pos e,e]
  ·rw [if_neg e,if_pos rfl]
 generalize hy0:l.getD a 0=y0 at *
 generalize hy1:l.getD pv 0=x at *
 have hsw':=hsw y0 x rfl rfl
 (repeat (refine qS ?_));(refine w_s [] [q] [(0,true),(1,true),(2,true),(3,true),(4,true),(5,true),(6,true),(7,true),(8,true),(9,true),(10,true),(11,true),(12,true),(13,false),(14,true),(15,false)] ?_;intro J hJ;simp [hH,hla,hlp,hd0,hd1];(repeat refine ca ?_);(refine hJ _ _ ?_;clear hJ J;simp only [ak,reduceIte]))
 rw [hsw']
 clear hsw hsw' hd0 hd1 hy0
 generalize hc:sw l a pv=c at *
 clear hc
 have hcl:=hpm.len
 have hDc:=dm_pm hD hpm
 have w1:=qN a (by omega)
 have w2:=nat_sub_one b (by omega) (by omega)
 obtain ⟨P,hPd⟩:∃ P:Int→Bool,∀ v,P v=!decide (x < v):=⟨_,fun _=>rfl⟩
 refine qS ?_
 refine awp_cut1 (fun fr st2=>(fr 0=.ms q 0 l.length∧fr 4=.fn (.func fid) caps)∧fr 1=i a∧fr 11=i ((a+1:Nat):Int)∧fr 12=i ((b - 1:Nat):Int)∧st2=bx en ec st q c) (by (refine w_e [] ?_;intro J hJ;simp only [];simp [w1,w2];(refine hJ _ _ ?_;clear hJ J;simp only [ak,reduceIte]));simp) ?_
 rintro fr st2 ⟨⟨f0,fC⟩,f1,fI,fJ,rfl⟩
 have hai:a < a+1:=by omega
 have hij:a+1≤b - 1+1:=by omega
 have hjb:b - 1 < b:=by omega
 have hLo:Lo P c a (a+1):=fun p h1 h2=>by omega
 have hHi:Hi P c (b - 1) b:=fun p h1 h2=>by omega
 generalize a+1=ii at *
 generalize b - 1=jj at *
 clear w1 w2
 have hd0:=ws_drop en ec c a (by omega)
 rw [hx] at hd0
 refine qS ?_
 refine qB ?_
 refine qL (fun m fr st2=>∃ (ii jj:Nat) (c:List Int),a < ii∧ii≤jj+1∧jj < b∧jj=m∧(fr 0=.ms q 0 l.length∧fr 4=.fn (.func fid) caps)∧fr 1=i a∧fr 11=i ii∧fr 12=i jj∧st2=bx en ec st q c∧Pm a b l c∧c.getD a 0=x∧Lo P c a ii∧Hi P c jj b) jj ?_ ?_
 ·exact ⟨ii,jj,c,by omega,by omega,by omega,rfl,⟨f0,fC⟩,f1,fI,fJ,rfl,hpm,hx,hLo,hHi⟩
 clear f0 fC f1 fI fJ hLo hHi hpm hx hcl hDc hd0 hai hij hjb ii jj c fr
 rintro m fr st2 ⟨ii,jj,c,hai,hij,hjb,rfl,⟨f0,fC⟩,f1,fI,fJ,rfl,hpm,hx,hLo,hHi⟩ JJ0 hJ0
 have hcl:=hpm.len
 have hDc:=dm_pm hD hpm
 have hd0:=ws_drop en ec c a (by omega)
 rw [hx] at hd0
 refine qB ?_
 refine qS ?_
 refine awp_cut1 (fun fr st2=>∃ ii:Nat,a < ii∧ii≤jj+1∧(fr 0=.ms q 0 l.length∧fr 4=.fn (.func fid) caps)∧fr 1=i a∧fr 11=i ii∧fr 12=i jj∧st2=bx en ec st q c∧Lo P c a ii∧StU P c ii jj) ?_ ?_
 ·refine qB ?_
  refine qL (fun m fr st2=>∃ ii:Nat,a < ii∧ii≤jj+1∧m=jj+1 - ii∧(fr 0=.ms q 0 l.length∧fr 4=.fn (.func fid) caps)∧fr 1=i a∧fr 11=i ii∧fr 12=i jj∧st2=bx en ec st q c∧Lo P c a ii) (jj+1 - ii) ?_ ?_
  ·exact ⟨ii,by omega,by omega,rfl,by simp [f0,fC],by simp [f1],by simp [fI],by simp [fJ],rfl,hLo⟩
  clear f0 fC f1 fI fJ hLo hai hij fr ii
  rintro m fr st2 ⟨ii,hai,hij,rfl,⟨f0,fC⟩,f1,fI,fJ,rfl,hLo⟩ JJ hJJ
  have hia:=qN ii (by omega)
  by_cases hle:ii≤jj
  rotate_left
  ·clear hJJ
   (repeat (refine qS ?_));(refine w_s [] [q] [(0,true),(1,true),(2,true),(3,true),(4,true),(5,true),(6,true),(7,true),(8,true),(9,true),(10,true),(11,true),(12,true),(13,false),(14,true),(15,true),(16,true)] ?_;intro J hJ;simp [f0,fC,f1,fI,fJ,hle];(refine hJ _ _ ?_;clear hJ J;simp only [ak,reduceIte]))
   (repeat' (first | (refine qX ?_;simp only [ak,reduceIte]) | (refine qC ?_;simp [])))
   exact ⟨trivial,ii,by omega,by omega,by simp [f0,fC],by simp [f1],by simp [fI],by simp [fJ],by trivial,hLo,fun h=>absurd h hle⟩
  have hli:ii < l.length:=by omega
  have hd1:=ws_drop en ec c ii (by omega)
  have hmo:=hLo.more
  generalize hy:c.getD ii 0=y at *
  (repeat (refine qS ?_));(refine w_s [] [q] [(0,true),(1,true),(2,true),(3,true),(4,true),(5,true),(6,true),(7,true),(8,true),(9,true),(10,true),(11,true),(12,true),(13,false),(14,true),(15,true),(16,true)] ?_;intro J hJ;simp [f0,fC,f1,fI,fJ,hle,hli,hla,hcl,hd0,hd1])
  refine dcallK_of (hC.call x y _ (by first | assumption | (subst_vars;exact dm_get (by assumption) (by omega))) (by first | assumption | (subst_vars;exact dm_get (by assumption) (by omega)))) ?_;rintro r s2 ⟨⟨nv,rfl,hnv⟩,rfl⟩
  refine ⟨fun _=>by simp,?_⟩
  have hP:=hPd y
  by_cases hyx:x < y
  ·clear hJJ
   (refine d_go ?_;simp [hnv,hyx];(refine hJ _ _ ?_;clear hJ J;simp only [ak,reduceIte]))
   (repeat' (first | (refine qX ?_;simp only [ak,reduceIte]) | (refine qC ?_;simp [])))
   exact ⟨trivial,ii,by omega,by omega,by simp [f0,fC],by simp [f1],by simp [fI],by simp [fJ],by trivial,hLo,fun _=>by rw [hy,hP];simp [hyx]⟩
  ·(refine d_go ?_;simp [hnv,hyx];(refine hJ _ _ ?_;clear hJ J;simp only [ak,reduceIte]))
   (repeat' (first | refine qB ?_ | (refine qK ?_;simp only [ak,reduceIte]) | (refine qC ?_;simp [fI,hia]) | (refine w_e [] ?_;intro J hJ;simp only [];simp [fI,hia];(refine hJ _ _ ?_;clear hJ J;simp only [ak,reduceIte]))))
   exact hJJ (jj+1 - (ii+1)) _ _ (by omega) ⟨ii+1,by omega,by omega,rfl,by simp [f0,fC],by simp [f1],by simp,by simp [fJ],rfl,hmo (by rw [hP];simp [hyx])⟩
 clear f0 fC f1 fI fJ hLo hai hij fr ii
 rintro fr st2 ⟨ii,hai,hij,⟨f0,fC⟩,f1,fI,fJ,rfl,hLo,hst⟩
 refine qS ?_
 refine awp_cut1 (fun fr st2=>∃ kk:Nat,a≤kk∧kk≤jj∧ii≤kk+1∧(fr 0=.ms q 0 l.length∧fr 4=.fn (.func fid) caps)∧fr 1=i a∧fr 11=i ii∧fr 12=i kk∧st2=bx en ec st q c∧Hi P c kk b∧StD P c ii kk) ?_ ?_
 ·refine qB ?_
  refine qL (fun m fr st2=>∃ kk:Nat,a≤kk∧kk≤jj∧ii≤kk+1∧kk=m∧(fr 0=.ms q 0 l.length∧fr 4=.fn (.func fid) caps)∧fr 1=i a∧fr 11=i ii∧fr 12=i kk∧st2=bx en ec st q c∧Hi P c kk b) jj ?_ ?_
  ·exact ⟨jj,by omega,by omega,by omega,rfl,by simp [f0,fC],by simp [f1],by simp [fI],by simp [fJ],rfl,hHi⟩
  clear f0 fC f1 fI fJ hHi fr
  rintro m fr st2 ⟨kk,hak,hkj,hik,rfl,⟨f0,fC⟩,f1,fI,fJ,rfl,hHi⟩ JJ hJJ
  by_cases hle:ii≤kk
  rotate_left
  ·clear hJJ
   (repeat (refine qS ?_));(refine w_s [] [q] [(0,true),(1,true),(2,true),(3,true),(4,true),(5,true),(6,true),(7,true),(8,true),(9,true),(10,true),(11,true),(12,true),(13,false),(14,true),(15,true)] ?_;intro J hJ;simp [f0,fC,f1,fI,fJ,hle];(refine hJ _ _ ?_;clear hJ J;simp only [ak,reduceIte]))
   (repeat' (first | (refine qX ?_;simp only [ak,reduceIte]) | (refine qC ?_;simp [])))
   exact ⟨trivial,kk,by omega,by omega,by omega,by simp [f0,fC],by simp [f1],by simp [fI],by simp [fJ],by trivial,hHi,fun h=>absurd h hle⟩
  have hja:=nat_sub_one kk (by omega) (by omega)
  have hlj:kk < l.length:=by omega
  have hd1:=ws_drop en ec c kk (by omega)
  have hmo:=hHi.more
  generalize hy:c.getD kk 0=y at *
  (repeat (refine qS ?_));(refine w_s [] [q] [(0,true),(1,true),(2,true),(3,true),(4,true),(5,true),(6,true),(7,true),(8,true),(9,true),(10,true),(11,true),(12,true),(13,false),(14,true),(15,true)] ?_;intro J hJ;simp [f0,fC,f1,fI,fJ,hle,hlj,hla,hcl,hd0,hd1])
  refine dcallK_of (hC.call x y _ (by first | assumption | (subst_vars;exact dm_get (by assumption) (by omega))) (by first | assumption | (subst_vars;exact dm_get (by assumption) (by omega)))) ?_;rintro r s2 ⟨⟨nv,rfl,hnv⟩,rfl⟩
  refine ⟨fun _=>by simp,?_⟩
  have hP:=hPd y
  by_cases hyx:x < y
  ·(refine d_go ?_;simp [hnv,hyx];(refine hJ _ _ ?_;clear hJ J;simp only [ak,reduceIte]))
   (repeat' (first | refine qB ?_ | (refine qK ?_;simp only [ak,reduceIte]) | (refine qC ?_;simp [fJ,hja]) | (refine w_e [] ?_;intro J hJ;simp only [];simp [fJ,hja];(refine hJ _ _ ?_;clear hJ J;simp only [ak,reduceIte]))))
   exact hJJ (kk - 1) _ _ (by omega) ⟨kk - 1,by omega,by omega,by omega,rfl,by simp [f0,fC],by simp [f1],by simp [fI],by simp,rfl,hmo (by omega) (by rw [hP];simp [hyx])⟩
  ·clear hJJ
   (refine d_go ?_;simp [hnv,hyx];(refine hJ _ _ ?_;clear hJ J;simp only [ak,reduceIte]))
   (repeat' (first | (refine qX ?_;simp only [ak,reduceIte]) | (refine qC ?_;simp [])))
   exact ⟨trivial,kk,by omega,by omega,by omega,by simp [f0,fC],by simp [f1],by simp [fI],by simp [fJ],by trivial,hHi,fun _=>by rw [hy,hP];simp [hyx]⟩
 clear f0 fC f1 fI fJ hHi fr
 rintro fr st2 ⟨kk,hak,hkj,hik,⟨f0,fC⟩,f1,fI,fJ,rfl,hHi,hst2⟩
 by_cases hle:ii≤kk
 rotate_left
 ·clear hJ0
  (repeat' (first | refine qS ?_ | (refine qX ?_;simp only [ak,reduceIte]) | (refine qR ?_;simp only [ak,reduceIte];simp [f0,fC,f1,fI,fJ,hle]) | (refine qC ?_;simp [f0,fC,f1,fI,fJ,hle];(try with_reducible intro hc)) | (refine w_e [] ?_;intro J hJ;simp only [];simp [f0,fC,f1,fI,fJ,hle];(refine hJ _ _ ?_;clear hJ J;simp only [ak,reduceIte]))))
  refine ⟨c,ii,rfl,rfl,hpm,by omega,by omega,fun p h1 h2=>?_,fun p h1 h2=>?_⟩
  ·by_cases e:p=a
   ·rw [e,hx];exact Int.le_refl _
   ·have:=hLo p (by omega) h2;rw [hPd] at this;simpa using this
  ·have:=hHi p (by omega) h2;rw [hPd] at this;simpa using this
 have hik2:ii < kk:=by
  rcases Nat.lt_or_ge ii kk with h | h
  ·exact h
  ·exfalso
   have e:ii=kk:=by omega
   have h1:=hst (by omega)
   have h2:=hst2 hle
   rw [e,h2] at h1;cases h1
 have hLo2:=hLo.swp hik2 (by omega) (hst2 hle)
 have hHi2:=hHi.swp hik2 (by omega) (hst (by omega))
 have hpm2:=hpm.step ii kk (by omega) (by omega) (by omega) (by omega) (by omega)
 have hxx:(sw c ii kk).getD a 0=x:=by rw [sw_get _ _ _ _ (by omega) (by omega),if_neg (by omega),if_neg (by omega)];exact hx
 have hli:ii < l.length:=by omega
 have hlk:kk < l.length:=by omega
 have hd1:=ws_drop en ec c ii (by omega)
 have hd2:=ws_drop en ec c kk (by omega)
 have hsw:=fun x y=>bx_sw en ec st q c ii kk (x:=x) (y:=y) (by omega) (by omega)
 have hia:=qN ii (by omega)
 have hka:=nat_sub_one kk (by omega) (by omega)
 clear hst hst2
 generalize hy1:c.getD ii 0=y1 at *
 generalize hy2:c.getD kk 0=y2 at *
 have hsw':=hsw y1 y2 rfl rfl
 (repeat' (first | refine qS ?_ | (refine qK ?_;simp only [ak,reduceIte]) | (refine qC ?_;simp [f0,fC,f1,fI,fJ,hle];(try with_reducible refine ⟨?_,?_⟩)<;>(try with_reducible intro hc)<;>try (exfalso;omega)) | (refine w_e [] ?_;intro J hJ;simp only [];simp [f0,fC,f1,fI,fJ,hle];(refine hJ _ _ ?_;clear hJ J;simp only [ak,reduceIte]))))
 (refine w_s [] [q] [(0,true),(1,true),(2,true),(3,true),(4,true),(5,true),(6,true),(7,true),(8,true),(9,true),(10,true),(11,true),(12,true),(13,false),(14,true),(15,false)] ?_;intro J hJ;simp [f0,fC,f1,fI,fJ,hli,hlk,hcl,hd1,hd2];(repeat refine ca ?_);(refine hJ _ _ ?_;clear hJ J;simp only [ak,reduceIte]))
 (repeat' (first | refine qS ?_ | (refine w_e [] ?_;intro J hJ;simp only [];simp [fI,fJ,hia,hka];(refine hJ _ _ ?_;clear hJ J;simp only [ak,reduceIte]))))
 exact hJ0 (kk - 1) _ _ (by omega) ⟨ii+1,kk - 1,sw c ii kk,by omega,by omega,by omega,rfl,by simp [f0,fC],by simp [f1],by simp,by simp,hsw',hpm2,hxx,hLo2,hHi2⟩
end Go.Proofs.YtkcokoefodgigaaGreat.Aw.CB
