/- The library's sort: siftDown, heapSort. -/
import Derived.Test.YtempldclppogmaaGreatDoorJa
set_option linter.unusedVariables false
set_option linter.unusedSimpArgs false
namespace Go.Proofs.YtempldclppogmaaGreatDoor.Aw
open Go Go.RowKit Go.Proofs.YtempldclppogmaaGreatDoor.Pl
theorem bU{P:Program}{N:Nat}{Q:AQ}{k:List eM}{fr:Frm}{st:St}{x y:Code}(I:Frm→St→Prop)(h1:AWp P N x (AK P N (fun e f s=>e=.normal∧I f s) []) fr st)(h2:∀ fr st,I fr st→AWp P N y (AK P N Q k) fr st):
 AWp P N x (AK P N Q (.code y::k)) fr st:=by
 refine cR h1 ?_
 rintro e fr' st' ⟨rfl,hI⟩
 rw[eD]
 exact h2 _ _ hI
theorem aFl(st:St)(q:Nat)(c:List Int)(k m:Nat){x y:Int}(hk:k<c.length)(hm:m<c.length)(hx:c.getD k 0=x)(hy:c.getD m 0=y):
 (st.set q (.box 34 1 (List.take k (us c)++.atom (.int .u32 y)::List.drop (k+1) (us c)))).set q
   (.box 34 1 (List.take m (List.take k (us c)++.atom (.int .u32 y)::List.drop (k+1) (us c))++.atom (.int .u32 x)::List.drop (m+1) (List.take k (us c)++.atom (.int .u32 y)::List.drop (k+1) (us c))))=bx st q (sw c k m):=by
 rw[← gF st q c k m hk hm hx hy]
 exact St.ext' rfl fun z=>by by_cases hz:z=q<;>simp[hz]
theorem aJO{P:Program}{N:Nat}{Q:AQ}{k:List eM}{fr:Frm}{st:St}{x y z:Code}(I:Frm→St→Prop)(h1:AWp P N x (AK P N (fun e f s=>e=.normal∧I f s) [.code y]) fr st)(h2:∀ fr st,I fr st→AWp P N z (AK P N Q k) fr st):
 AWp P N x (AK P N Q (.code y::.code z::k)) fr st:=by
 refine cR h1 ?_
 rintro e fr' st' h
 cases e with
 |normal=>
  rw[eD]at h ⊢
  refine cR h ?_
  rintro e fr2 st2 ⟨rfl,h⟩
  rw[eD]
  exact h2 _ _ h
 |_=>exact absurd h.1 sS
def aPe(c:List Int)(f r hi ch:Nat):Prop:=∀ x,(x=2*r+1∨x=2*r+2)→x<hi→c.getD (f+x) 0≤c.getD (f+ch) 0
theorem aDu(l:List Int)(q lo hi f:Nat)(st:St)(hl:small l)(hb:f+hi≤l.length)(hlo:lo≤l.length)(hh:pN (lo+1) hi f l)(hH:st.H q=.box 34 1 (us l)):
 aB Tryz.prog 194 [.ms q 0 l.length,i lo,i hi,i f] st fun r st'=>∃ c,st'=bx st q c∧Pm (f+lo) (f+hi) l c∧pN lo hi f c:=by
 unfold small at hl
 refine qO aF Tryz.func194 rfl rfl Tryz.ntmps194 (rs:=[]) rfl sS ?_
 (repeat' (first|refine qS ?_|refine qB ?_|(refine w_e [] ?_;intro J hJ;simp only[];simp[];refine hJ _ _ (zZ ?_))))
 refine qL (fun n fr st'=>∃(r:Nat) (c:List Int),lo≤r∧r≤l.length∧n=hi-r∧fr 0=.ms q 0 l.length∧fr 2=i hi∧fr 3=i f∧fr 8=i r∧st'=bx st q c∧Pm (f+lo) (f+hi) l c∧pD lo hi f r c) (hi-lo) ?_ ?_
 ·exact⟨lo,l,Nat.le_refl _,hlo,rfl,sS,sS,sS,sS,gT hH,.refl,hh.x⟩
 rintro n fr st1 ⟨r,c,hlr,hrl,rfl,f0,f2,f3,f8,rfl,hpm,hX⟩ JJ hJJ
 have hcl:=hpm.len
 obtain⟨m,hm⟩:∃ m:Nat,m=2*r+1:=⟨_,rfl⟩
 obtain⟨m2,hm2⟩:∃ m:Nat,m=2*r+2:=⟨_,rfl⟩
 have w1:IntKind.i64.wrap (2*(r:Int))=2*(r:Int):=wrap_i64 _ oO oO
 have w2:IntKind.i64.wrap (2*(r:Int)+1)=(m:Int):=by rw[wrap_i64 _ oO oO];omega
 have w3:IntKind.i64.wrap ((m:Int)+1)=(m2:Int):=by rw[wrap_i64 _ oO oO];omega
 by_cases hmh:hi≤m
 ·clear hJJ
  (repeat' (first|refine qS ?_|refine qB ?_|(refine qX (zZ ?_))|(refine qC ?_;simp[f0,f2,f3,f8,w1,w2,hmh])|(refine w_e [] ?_;intro J hJ;simp only[];simp[f0,f2,f3,f8,w1,w2,hmh];refine hJ _ _ (zZ ?_))))
  exact⟨trivial,c,rfl,hpm,hX.leaf oO⟩
 obtain⟨x1,hx1⟩:∃ x:Nat,x=f+m:=⟨_,rfl⟩
 obtain⟨x2,hx2⟩:∃ x:Nat,x=f+m2:=⟨_,rfl⟩
 obtain⟨x0,hx0⟩:∃ x:Nat,x=f+r:=⟨_,rfl⟩
 have w4:IntKind.i64.wrap ((f:Int)+(m:Int))=(x1:Int):=by rw[wrap_i64 _ oO oO];omega
 have w5:IntKind.i64.wrap ((x1:Int)+1)=(x2:Int):=by rw[wrap_i64 _ oO oO];omega
 have w6:IntKind.i64.wrap ((f:Int)+(r:Int))=(x0:Int):=by rw[wrap_i64 _ oO oO];omega
 (repeat' (first|refine qS ?_|refine qB ?_|(refine w_e [] ?_;intro J hJ;simp only[];simp[f0,f2,f3,f8,w1,w2,hmh];refine hJ _ _ (zZ ?_))))
 (refine qC ?_;simp[])
 (repeat' (first|refine qS ?_|(refine qK (zZ ?_))))
 refine aJO (fun fr2 st2=>st2=bx st q c∧fr2 0=.ms q 0 l.length∧fr2 2=i hi∧fr2 3=i f∧fr2 8=i r∧∃ ch:Nat,fr2 9=i ch∧(ch=2*r+1∨ch=2*r+2)∧ch<hi∧aPe c f r hi ch) ?_ ?_
 ·by_cases h2h:m2<hi
  rotate_left
  ·(refine w_s [] [q] [(0,true),(1,true),(2,true),(3,true),(4,true),(5,true),(6,true),(7,true),(8,true),(9,true),(10,true),(11,true),(12,true),(13,true),(14,true),(15,true),(16,true),(17,true),(18,false),(19,true)] ?_;intro J hJ;simp[f0,f2,f3,f8,w3,h2h];refine hJ _ _ (zZ ?_))
   (repeat' (first|(refine qK (zZ ?_))|(refine qC ?_;simp[f0])))
   refine⟨trivial,trivial,by simp[f0],by simp[f2],by simp[f3],by simp[f8],m,sS,oO,oO,fun x h1 h2=>?_⟩
   rw[show x=m by omega];exact Int.le_refl _
  have hd1:=qG c x1 oO
  have hd2:=qG c x2 oO
  have hl1:x1<l.length:=oO
  have hl2:x2<l.length:=oO
  generalize hy1:c.getD x1 0=y1 at *
  generalize hy2:c.getD x2 0=y2 at *
  (refine w_s [] [q] [(0,true),(1,true),(2,true),(3,true),(4,true),(5,true),(6,true),(7,true),(8,true),(9,true),(10,true),(11,true),(12,true),(13,true),(14,true),(15,true),(16,true),(17,true),(18,false),(19,true)] ?_;intro J hJ;simp[f0,f2,f3,f8,w3,w4,w5,h2h,hl1,hl2,hcl,hd1,hd2])
  refine aO (pF y1 y2 _) ?_;rintro r1 s2 ⟨rfl,rfl⟩
  refine⟨fun _=>by simp,?_⟩
  by_cases hyy:y1<y2
  ·(refine bE ?_;simp[hyy];refine hJ _ _ (zZ ?_))
   (repeat' (first|(refine qC ?_;simp[w3])|(refine w_e [] ?_;intro J hJ;simp only[];simp[w3];refine hJ _ _ (zZ ?_))))
   refine⟨trivial,trivial,by simp[f0],by simp[f2],by simp[f3],by simp[f8],m2,sS,oO,oO,fun x h1 h2=>?_⟩
   rcases(show x=m∨x=m2 by omega)with rfl|rfl
   ·rw[← hx1,← hx2,hy1,hy2];omega
   ·exact Int.le_refl _
  ·(refine bE ?_;simp[hyy];refine hJ _ _ (zZ ?_))
   (repeat' (first|(refine qK (zZ ?_))|(refine qC ?_;simp[])))
   refine⟨trivial,trivial,by simp[f0],by simp[f2],by simp[f3],by simp[f8],m,sS,oO,oO,fun x h1 h2=>?_⟩
   rcases(show x=m∨x=m2 by omega)with rfl|rfl
   ·exact Int.le_refl _
   ·rw[← hx1,← hx2,hy1,hy2];omega
 clear f0 f2 f3 f8 w1 w2 w3 w4 w5 hx1 hx2 x1 x2 fr
 rintro fr st2 ⟨rfl,f0,f2,f3,f8,ch,f9,hch,hchi,hmax⟩
 obtain⟨x1,hx1⟩:∃ x:Nat,x=f+ch:=⟨_,rfl⟩
 have w4:IntKind.i64.wrap ((f:Int)+(ch:Int))=(x1:Int):=by rw[wrap_i64 _ oO oO];omega
 have hd1:=qG c x1 oO
 have hd0:=qG c x0 oO
 have hl1:x1<l.length:=oO
 have hl0:x0<l.length:=oO
 unfold aPe at hmax
 have hstep:=hX.step (c:=ch) hlr hch hchi oO hmax
 have hpm1:=hpm.step x0 x1 oO oO oO oO oO
 have hbig:=hX.big
 rw[← hx0,← hx1]at hstep
 rw[← hx0]at hbig
 rw[← hx1]at hmax
 generalize hy0:c.getD x0 0=y0 at *
 generalize hy1:c.getD x1 0=y1 at *
 (repeat (refine qS ?_));(refine w_s [] [q] [(0,true),(1,true),(2,true),(3,true),(4,true),(5,true),(6,true),(7,true),(8,true),(9,true),(10,true),(11,true),(12,false),(13,true)] ?_;intro J hJ;simp[f0,f2,f3,f8,f9,w4,w6,hl1,hl0,hcl,hd1,hd0])
 refine aO (pF y0 y1 _) ?_;rintro r1 s2 ⟨rfl,rfl⟩
 refine⟨fun _=>by simp,?_⟩
 by_cases hyy:y0<y1
 rotate_left
 ·clear hJJ
  (refine bE ?_;simp[hyy];refine hJ _ _ (zZ ?_))
  (repeat' (first|(refine qR (zZ ?_);simp[])|(refine qC ?_;simp[])))
  exact⟨c,rfl,hpm,hbig fun x h1 h2=>by have:=hmax x h1 h2;omega⟩
 (refine bE ?_;simp[hyy];refine hJ _ _ (zZ ?_))
 (repeat' (first|refine qS ?_|(refine qK (zZ ?_))|(refine qC ?_;simp[])))
 (refine w_s [] [q] [(0,true),(1,true),(2,true),(3,true),(4,true),(5,true),(6,true),(7,true),(8,true),(9,true),(10,true),(11,true),(12,true),(13,true),(14,true),(15,true),(16,true),(17,true),(18,true),(19,true),(20,true),(21,false),(22,true),(23,false)] ?_;intro J hJ;simp[f0,f2,f3,f8,f9,w4,w6,hl1,hl0,hcl,hd1,hd0];(repeat refine ca ?_);refine hJ _ _ (zZ ?_))
 (repeat' (refine w_e [] ?_;intro J hJ;simp only[];simp[f9];refine hJ _ _ (zZ ?_)))
 exact hJJ (hi-ch) _ _ oO ⟨ch,sw c x0 x1,oO,oO,rfl,by simp[f0],by simp[f2],by simp[f3],sS,gF st q c x0 x1 oO oO hy0 hy1,hpm1,hstep hyy⟩
def aRF(c:List Int)(f j hi:Nat):Prop:=∀ p q,p<q→j≤q→q<hi→c.getD (f+p) 0≤c.getD (f+q) 0
theorem aIE(l:List Int)(q a b:Nat)(st:St)(hl:small l)(ha:a<b)(hb:b≤l.length)(hH:st.H q=.box 34 1 (us l)):
 aB Tryz.prog 167 [.ms q 0 l.length,i a,i b] st fun r st'=>∃ c,st'=bx st q c∧Pm a b l c∧Srt a b c:=by
 have hsm:=hl
 unfold small at hl
 obtain⟨n,hn⟩:∃ n:Nat,n=b-a:=⟨_,rfl⟩
 obtain⟨n1,hn1⟩:∃ n:Nat,n=b-a-1:=⟨_,rfl⟩
 obtain⟨n2,hn2⟩:∃ n:Nat,n=n1 / 2:=⟨_,rfl⟩
 have w1:IntKind.i64.wrap ((b:Int)-(a:Int))=(n:Int):=by rw[wrap_i64 _ oO oO];omega
 have w2:IntKind.i64.wrap ((n:Int)-1)=(n1:Int):=by rw[wrap_i64 _ oO oO];omega
 have w3:IntKind.i64.wrap ((n1:Int) / 2)=(n2:Int):=by
  rw[show(n1:Int) / 2=((n1 / 2:Nat):Int) from rfl,← hn2]
  exact wrap_i64 _ oO oO
 refine qO aF Tryz.func167 rfl rfl Tryz.ntmps167 (rs:=[]) rfl sS ?_
 (repeat' (first|refine qS ?_|refine qB ?_|(refine w_e [] ?_;intro J hJ;simp only[];simp[w1,w2,w3];refine hJ _ _ (zZ ?_))))
 refine qL (fun m fr st'=>∃(c:List Int),m≤n2+1∧fr 0=.ms q 0 l.length∧fr 6=i a∧fr 7=i 0∧fr 8=i n∧fr 9=i ((m:Int)-1)∧st'=bx st q c∧Pm a b l c∧pN m n a c) (n2+1) ?_ ?_
 ·exact⟨l,oO,sS,sS,sS,sS,sS,gT hH,.refl,fun k x h1 h2 h3=>by omega⟩
 rintro m fr st1 ⟨c,hm,f0,f6,f7,f8,f9,rfl,hpm,hh⟩ JJ hJJ
 have hcl:=hpm.len
 cases m with
 |succ m=>
  have f9':fr 9=i (m:Int):=by rw[f9];congr 2;omega
  have w4:IntKind.i64.wrap ((m:Int)-1)=(m:Int)-1:=wrap_i64 _ oO oO
  have hge:(0:Int)≤(m:Int):=oO
  (repeat' (first|refine qS ?_|refine qB ?_|(refine qK (zZ ?_))|(refine qC ?_;simp[f0,f6,f7,f8,f9',hge])|(refine w_e [] ?_;intro J hJ;simp only[];simp[f0,f6,f7,f8,f9',hge];(try refine hJ _ _ (zZ ?_)))))
  rw[← hcl]
  refine qF (aDu c q m n a _ (by unfold small;omega) oO oO hh sS) ?_
  rintro r s2 ⟨c2,rfl,hpm2,hh2⟩
  rw[hcl]
  (repeat' ((first|(refine w_e [] ?_;intro J hJ;simp only[])|(refine aE ?_));simp[f9',w4];refine hJ _ _ (zZ ?_)))
  exact hJJ m _ _ oO ⟨c2,oO,by simp[f0],by simp[f6],by simp[f7],by simp[f8],sS,St.set_set _ _ _ _,hpm.trans (hpm2.wide oO oO oO),hh2⟩
 |zero=>
  clear hJJ
  have f9':fr 9=i (-1):=by rw[f9];rfl
  (repeat' (first|refine qS ?_|refine qB ?_|(refine qX (zZ ?_))|(refine qC ?_;simp[f0,f6,f7,f8,f9',w2])|(refine w_e [] ?_;intro J hJ;simp only[];simp[f0,f6,f7,f8,f9',w2];refine hJ _ _ (zZ ?_))))
  refine qL (fun m fr st'=>∃(c:List Int),m≤n∧fr 0=.ms q 0 l.length∧fr 6=i a∧fr 7=i 0∧fr 10=i ((m:Int)-1)∧st'=bx st q c∧Pm a b l c∧pN 0 m a c∧aRF c a m n) n ?_ ?_
  ·exact⟨c,Nat.le_refl _,by simp[f0],by simp[f6],by simp[f7],by simp;omega,rfl,hpm,hh,fun p q h1 h2 h3=>by omega⟩
  clear f0 f6 f7 f8 f9 f9' hpm hh hcl c fr
  rintro m fr st1 ⟨c,hm,f0,f6,f7,f10,rfl,hpm,hh,hla⟩ JJ hJJ
  have hcl:=hpm.len
  cases m with
  |zero=>
   have f10':fr 10=i (-1):=by rw[f10];rfl
   (repeat' (first|refine qS ?_|(refine qX (zZ ?_))|(refine qC ?_;simp[f10'])|(refine w_e [] ?_;intro J hJ;simp only[];simp[f10'];refine hJ _ _ (zZ ?_))))
   refine⟨trivial,c,rfl,hpm,fun p q h1 h2 h3=>?_⟩
   have:=hla (p-a) (q-a) oO oO oO
   rwa [show a+(p-a)=p by omega,show a+(q-a)=q by omega]at this
  |succ m=>
   have f10':fr 10=i (m:Int):=by rw[f10];congr 2;omega
   have w4:IntKind.i64.wrap ((m:Int)-1)=(m:Int)-1:=wrap_i64 _ oO oO
   have hge:(0:Int)≤(m:Int):=oO
   obtain⟨x1,hx1⟩:∃ x:Nat,x=a+m:=⟨_,rfl⟩
   have w5:IntKind.i64.wrap ((a:Int)+(m:Int))=(x1:Int):=by rw[wrap_i64 _ oO oO];omega
   have hd0:=qG c a oO
   have hd1:=qG c x1 oO
   have hl0:a<l.length:=oO
   have hl1:x1<l.length:=oO
   have hpop:=hh.pop oO
   have hnext:=fun c2=>aHk (c2:=c2) hh hla oO oO
   have hpm1:=hpm.step a x1 oO oO oO oO oO
   rw[← hx1]at hpop hnext
   have hsl:=aAq c a x1
   have hsw:=fun x y=>gF st q c a x1 (x:=x) (y:=y) oO oO
   generalize hy0:c.getD a 0=y0 at *
   generalize hy1:c.getD x1 0=y1 at *
   have hsw':=hsw y0 y1 rfl rfl
   (repeat' (first|refine qS ?_|refine qB ?_|(refine qK (zZ ?_))|(refine qC ?_;simp[f0,f6,f7,f10',hge])|(refine w_e [] ?_;intro J hJ;simp only[];simp[f0,f6,f7,f10',hge];refine hJ _ _ (zZ ?_))))
   (refine w_s [] [q] [(0,true),(1,true),(2,true),(3,true),(4,true),(5,true),(6,true),(7,true),(8,true),(9,true),(10,true),(11,true),(12,true),(13,true),(14,true),(15,true),(16,true),(17,false),(18,true),(19,false)] ?_;intro J hJ;simp[f0,f6,f7,f10',w5,hl0,hl1,hcl,hd0,hd1];(repeat refine ca ?_);refine hJ _ _ (zZ ?_))
   rw[hsw']
   generalize hc1:sw c a x1=c1 at *
   (repeat' (refine w_e [] ?_;intro J hJ;simp only[];simp[f0,f6,f7,f10']))
   rw[← hcl,← hsl]
   refine qF (aDu c1 q 0 m a _ (by unfold small;omega) oO oO hpop sS) ?_
   rintro r s2 ⟨c2,rfl,hpm2,hh2⟩
   rw[hsl,hcl]
   (repeat' ((first|(refine w_e [] ?_;intro J hJ;simp only[])|(refine aE ?_));simp[f10',w4];refine hJ _ _ (zZ ?_)))
   exact hJJ m _ _ oO ⟨c2,oO,by simp[f0],by simp[f6],by simp[f7],sS,St.set_set _ _ _ _,hpm1.trans (hpm2.wide oO oO oO),hh2,hnext c2 (by rw[hx1];exact hpm2)⟩
def StU(P:Int→Bool)(c:List Int)(ii jj:Nat):Prop:=ii≤jj→P (c.getD ii 0)=false
def StD(P:Int→Bool)(c:List Int)(ii kk:Nat):Prop:=ii≤kk→P (c.getD kk 0)=true
theorem partition(l:List Int)(q a b pv:Nat)(st:St)(hl:small l)(hab:a<b)(hb:b≤l.length)(hp1:a≤pv)(hp2:pv<b)(hH:st.H q=.box 34 1 (us l)):
 aB Tryz.prog 174 [.ms q 0 l.length,i a,i b,i pv] st fun r st'=>∃(c:List Int) (mid:Nat) (p:Bool),r=.tu [i mid,bb p]∧st'=bx st q c∧Pm a b l c∧a≤mid∧mid<b∧cN c a mid b:=by
 unfold small at hl
 refine qO aF Tryz.func174 rfl rfl Tryz.ntmps174 (rs:=[.tmp 8,.tmp 9]) rfl sS ?_
 (repeat (refine qS ?_));(refine w_e [] ?_;intro J hJ;simp only[];simp[];refine hJ _ _ (zZ ?_))
 have hla:a<l.length:=oO
 have hlp:pv<l.length:=oO
 have hsw:=fun x y=>aFl st q l a pv (x:=x) (y:=y) oO oO
 have hd0:=qG l a oO
 have hd1:=qG l pv oO
 have hpm:Pm a b l (sw l a pv):=Pm.one a pv oO oO oO oO oO
 have hx:(sw l a pv).getD a 0=l.getD pv 0:=by
  rw[cK _ _ _ _ oO oO]
  by_cases e:a=pv
  ·rw[if_pos e,e]
  ·rw[if_neg e,if_pos rfl]
 generalize hy0:l.getD a 0=y0 at *
 generalize hy1:l.getD pv 0=x at *
 have hsw':=hsw y0 x rfl rfl
 (repeat (refine qS ?_));(refine w_s [] [q] [(0,true),(1,true),(2,true),(3,true),(4,true),(5,true),(6,true),(7,true),(8,true),(9,true),(10,true),(11,true),(12,true),(13,false),(14,true),(15,false)] ?_;intro J hJ;simp[hH,hla,hlp,hd0,hd1];(repeat refine ca ?_);refine hJ _ _ (zZ ?_))
 rw[hsw']
 clear hsw hsw' hd0 hd1 hy0
 generalize hc:sw l a pv=c at *
 clear hc
 have hcl:=hpm.len
 have w1:=qN a oO
 have w2:=aR b oO oO
 obtain⟨P,hPd⟩:∃ P:Int→Bool,∀ v,P v=decide (v<x):=⟨_,fun _=>rfl⟩
 refine qS ?_
 refine bU (fun fr st2=>fr 0=.ms q 0 l.length∧fr 1=i a∧fr 10=i ((a+1:Nat):Int)∧fr 11=i ((b-1:Nat):Int)∧st2=bx st q c) (by(refine w_e [] ?_;intro J hJ;simp only[];simp[w1,w2];refine hJ _ _ (zZ ?_));simp) ?_
 rintro fr st2 ⟨f0,f1,fI,fJ,rfl⟩
 have hai:a<a+1:=oO
 have hij:a+1≤b-1+1:=oO
 have hjb:b-1<b:=oO
 have hLo:Lo P c a (a+1):=fun p h1 h2=>by omega
 have hHi:Hi P c (b-1) b:=fun p h1 h2=>by omega
 generalize a+1=ii at *
 generalize b-1=jj at *
 clear w1 w2
 have hd0:=qG c a oO
 rw[hx]at hd0
 refine qS ?_
 refine bU (fun fr st2=>∃ ii:Nat,a<ii∧ii≤jj+1∧fr 0=.ms q 0 l.length∧fr 1=i a∧fr 10=i ii∧fr 11=i jj∧st2=bx st q c∧Lo P c a ii∧StU P c ii jj) ?_ ?_
 ·refine qB ?_
  refine qL (fun m fr st2=>∃ ii:Nat,a<ii∧ii≤jj+1∧m=jj+1-ii∧fr 0=.ms q 0 l.length∧fr 1=i a∧fr 10=i ii∧fr 11=i jj∧st2=bx st q c∧Lo P c a ii) (jj+1-ii) ?_ ?_
  ·exact⟨ii,oO,oO,rfl,by simp[f0],by simp[f1],by simp[fI],by simp[fJ],rfl,hLo⟩
  clear f0 f1 fI fJ hLo hai hij fr ii
  rintro m fr st2 ⟨ii,hai,hij,rfl,f0,f1,fI,fJ,rfl,hLo⟩ JJ hJJ
  have hia:=qN ii oO
  by_cases hle:ii≤jj
  rotate_left
  ·clear hJJ
   (repeat (refine qS ?_));(refine w_s [] [q] [(0,true),(1,true),(2,true),(3,true),(4,true),(5,true),(6,true),(7,true),(8,true),(9,true),(10,true),(11,true),(12,false),(13,true)] ?_;intro J hJ;simp[f0,f1,fI,fJ,hle];refine hJ _ _ (zZ ?_))
   (repeat' (first|(refine qX (zZ ?_))|(refine qC ?_;simp[])))
   exact⟨trivial,ii,oO,oO,by simp[f0],by simp[f1],by simp[fI],by simp[fJ],by trivial,hLo,fun h=>absurd h hle⟩
  have hli:ii<l.length:=oO
  have hd1:=qG c ii oO
  have hmo:=hLo.more
  generalize hy:c.getD ii 0=y at *
  (repeat (refine qS ?_));(refine w_s [] [q] [(0,true),(1,true),(2,true),(3,true),(4,true),(5,true),(6,true),(7,true),(8,true),(9,true),(10,true),(11,true),(12,false),(13,true)] ?_;intro J hJ;simp[f0,f1,fI,fJ,hle,hli,hla,hcl,hd0,hd1])
  refine aO (pF y x _) ?_;rintro r s2 ⟨rfl,rfl⟩
  refine⟨fun _=>by simp,?_⟩
  have hP:=hPd y
  by_cases hyx:y<x
  ·(refine bE ?_;simp[hyx];refine hJ _ _ (zZ ?_))
   (repeat' (first|refine qB ?_|(refine qK (zZ ?_))|(refine qC ?_;simp[fI,hia])|(refine w_e [] ?_;intro J hJ;simp only[];simp[fI,hia];refine hJ _ _ (zZ ?_))))
   exact hJJ (jj+1-(ii+1)) _ _ oO ⟨ii+1,oO,oO,rfl,by simp[f0],by simp[f1],sS,by simp[fJ],rfl,hmo (by rw[hP];simp[hyx])⟩
  ·clear hJJ
   (refine bE ?_;simp[hyx];refine hJ _ _ (zZ ?_))
   (repeat' (first|(refine qX (zZ ?_))|(refine qC ?_;simp[])))
   exact⟨trivial,ii,oO,oO,by simp[f0],by simp[f1],by simp[fI],by simp[fJ],by trivial,hLo,fun _=>by rw[hy,hP];simp[hyx]⟩
 clear f0 f1 fI fJ hLo hai hij fr ii
 rintro fr st2 ⟨ii,hai,hij,f0,f1,fI,fJ,rfl,hLo,hst⟩
 refine qS ?_
 refine bU (fun fr st2=>∃ kk:Nat,a≤kk∧kk≤jj∧ii≤kk+1∧fr 0=.ms q 0 l.length∧fr 1=i a∧fr 10=i ii∧fr 11=i kk∧st2=bx st q c∧Hi P c kk b∧StD P c ii kk) ?_ ?_
 ·refine qB ?_
  refine qL (fun m fr st2=>∃ kk:Nat,a≤kk∧kk≤jj∧ii≤kk+1∧kk=m∧fr 0=.ms q 0 l.length∧fr 1=i a∧fr 10=i ii∧fr 11=i kk∧st2=bx st q c∧Hi P c kk b) jj ?_ ?_
  ·exact⟨jj,oO,oO,oO,rfl,by simp[f0],by simp[f1],by simp[fI],by simp[fJ],rfl,hHi⟩
  clear f0 f1 fI fJ hHi fr
  rintro m fr st2 ⟨kk,hak,hkj,hik,rfl,f0,f1,fI,fJ,rfl,hHi⟩ JJ hJJ
  by_cases hle:ii≤kk
  rotate_left
  ·clear hJJ
   (repeat (refine qS ?_));(refine w_s [] [q] [(0,true),(1,true),(2,true),(3,true),(4,true),(5,true),(6,true),(7,true),(8,true),(9,true),(10,true),(11,true),(12,false),(13,true),(14,true)] ?_;intro J hJ;simp[f0,f1,fI,fJ,hle];refine hJ _ _ (zZ ?_))
   (repeat' (first|(refine qX (zZ ?_))|(refine qC ?_;simp[])))
   exact⟨trivial,kk,oO,oO,oO,by simp[f0],by simp[f1],by simp[fI],by simp[fJ],by trivial,hHi,fun h=>absurd h hle⟩
  have hja:=aR kk oO oO
  have hlj:kk<l.length:=oO
  have hd1:=qG c kk oO
  have hmo:=hHi.more
  generalize hy:c.getD kk 0=y at *
  (repeat (refine qS ?_));(refine w_s [] [q] [(0,true),(1,true),(2,true),(3,true),(4,true),(5,true),(6,true),(7,true),(8,true),(9,true),(10,true),(11,true),(12,false),(13,true),(14,true)] ?_;intro J hJ;simp[f0,f1,fI,fJ,hle,hlj,hla,hcl,hd0,hd1])
  refine aO (pF y x _) ?_;rintro r s2 ⟨rfl,rfl⟩
  refine⟨fun _=>by simp,?_⟩
  have hP:=hPd y
  by_cases hyx:y<x
  ·clear hJJ
   (refine bE ?_;simp[hyx];refine hJ _ _ (zZ ?_))
   (repeat' (first|(refine qX (zZ ?_))|(refine qC ?_;simp[])))
   exact⟨trivial,kk,oO,oO,oO,by simp[f0],by simp[f1],by simp[fI],by simp[fJ],by trivial,hHi,fun _=>by rw[hy,hP];simp[hyx]⟩
  ·(refine bE ?_;simp[hyx];refine hJ _ _ (zZ ?_))
   (repeat' (first|refine qB ?_|(refine qK (zZ ?_))|(refine qC ?_;simp[fJ,hja])|(refine w_e [] ?_;intro J hJ;simp only[];simp[fJ,hja];refine hJ _ _ (zZ ?_))))
   exact hJJ (kk-1) _ _ oO ⟨kk-1,oO,oO,oO,rfl,by simp[f0],by simp[f1],by simp[fI],sS,rfl,hmo oO (by rw[hP];simp[hyx])⟩
 clear f0 f1 fI fJ hHi fr
 rintro fr st2 ⟨kk,hak,hkj,hik,f0,f1,fI,fJ,rfl,hHi,hst2⟩
 by_cases hle:ii≤kk
 rotate_left
 ·have hke:ii=kk+1:=oO
  have hpl:=sW (hke ▸ hLo) hHi oO oO oO
  have hpm2:=hpm.step kk a oO oO oO oO oO
  have hlk:kk<l.length:=oO
  have hd1:=qG c kk oO
  have hsw:=fun x y=>gF st q c kk a (x:=x) (y:=y) oO oO
  generalize hy1:c.getD kk 0=y1 at *
  have hsw':=hsw y1 x rfl hx
  (repeat' (first|refine qS ?_|(refine qC ?_;simp[f0,f1,fI,fJ,hle];(try with_reducible intro hc))|(refine w_e [] ?_;intro J hJ;simp only[];simp[f0,f1,fI,fJ,hle];refine hJ _ _ (zZ ?_))))
  (refine w_s [] [q] [(0,true),(1,true),(2,true),(3,true),(4,true),(5,true),(6,true),(7,true),(8,true),(9,true),(10,true),(11,true),(12,true),(13,false),(14,true),(15,false)] ?_;intro J hJ;simp[f0,f1,fI,fJ,hla,hlk,hcl,hd0,hd1];(repeat refine ca ?_);refine hJ _ _ (zZ ?_))
  (repeat' (first|refine qS ?_|(refine qR (zZ ?_);simp[f0,f1,fI,fJ])|(refine w_e [] ?_;intro J hJ;simp only[];simp[f0,f1,fI,fJ];refine hJ _ _ (zZ ?_))))
  exact⟨_,kk,rfl,hsw',hpm2,oO,oO,by unfold cN;rw[hpl.2,hx];have h:=hpl.1;rwa [show P=_ from funext hPd]at h⟩
 have hik2:ii<kk:=by
  rcases Nat.lt_or_ge ii kk with h|h
  ·exact h
  ·exfalso
   have e:ii=kk:=oO
   have h1:=hst oO
   have h2:=hst2 hle
   rw[e,h2]at h1;cases h1
 have hLo2:=hLo.swp hik2 oO (hst2 hle)
 have hHi2:=hHi.swp hik2 oO (hst oO)
 have hpm2:=hpm.step ii kk oO oO oO oO oO
 have hxx:(sw c ii kk).getD a 0=x:=by rw[cK _ _ _ _ oO oO,if_neg oO,if_neg oO];exact hx
 have hli:ii<l.length:=oO
 have hlk:kk<l.length:=oO
 have hd1:=qG c ii oO
 have hd2:=qG c kk oO
 have hsw:=fun x y=>gF st q c ii kk (x:=x) (y:=y) oO oO
 have hia:=qN ii oO
 have hka:=aR kk oO oO
 clear hst hst2
 generalize hy1:c.getD ii 0=y1 at *
 generalize hy2:c.getD kk 0=y2 at *
 have hsw':=hsw y1 y2 rfl rfl
 (repeat' (first|refine qS ?_|(refine qK (zZ ?_))|(refine qC ?_;simp[f0,f1,fI,fJ,hle];(try with_reducible refine⟨?_,?_⟩)<;>(try with_reducible intro hc)<;>try (exfalso;omega))|(refine w_e [] ?_;intro J hJ;simp only[];simp[f0,f1,fI,fJ,hle];refine hJ _ _ (zZ ?_))))
 (refine w_s [] [q] [(0,true),(1,true),(2,true),(3,true),(4,true),(5,true),(6,true),(7,true),(8,true),(9,true),(10,true),(11,true),(12,true),(13,false),(14,true),(15,false)] ?_;intro J hJ;simp[f0,f1,fI,fJ,hli,hlk,hcl,hd1,hd2];(repeat refine ca ?_);refine hJ _ _ (zZ ?_))
 (repeat' (first|refine qS ?_|refine qB ?_|(refine w_e [] ?_;intro J hJ;simp only[];simp[fI,fJ,hia,hka];refine hJ _ _ (zZ ?_))))
 rw[hsw']
 refine qL (fun m fr st2=>∃(ii jj:Nat) (c:List Int),a<ii∧ii≤jj+1∧jj<b∧jj=m∧fr 0=.ms q 0 l.length∧fr 1=i a∧fr 10=i ii∧fr 11=i jj∧st2=bx st q c∧Pm a b l c∧c.getD a 0=x∧Lo P c a ii∧Hi P c jj b) (kk-1) ?_ ?_
 ·exact⟨ii+1,kk-1,sw c ii kk,oO,oO,oO,rfl,by simp[f0],by simp[f1],sS,sS,rfl,hpm2,hxx,hLo2,hHi2⟩
 clear f0 f1 fI fJ hLo hHi hLo2 hHi2 hpm hpm2 hx hxx hcl hd0 hd1 hd2 hsw hsw' hy1 hy2 y1 y2 hai hij hak hik hik2 hli hlk hia hka hle hkj hjb ii jj kk c fr
 rintro m fr st2 ⟨ii,jj,c,hai,hij,hjb,rfl,f0,f1,fI,fJ,rfl,hpm,hx,hLo,hHi⟩ JJ0 hJ0
 have hcl:=hpm.len
 have hd0:=qG c a oO
 rw[hx]at hd0
 refine qB ?_
 refine qS ?_
 refine bU (fun fr st2=>∃ ii:Nat,a<ii∧ii≤jj+1∧fr 0=.ms q 0 l.length∧fr 1=i a∧fr 10=i ii∧fr 11=i jj∧st2=bx st q c∧Lo P c a ii∧StU P c ii jj) ?_ ?_
 ·refine qB ?_
  refine qL (fun m fr st2=>∃ ii:Nat,a<ii∧ii≤jj+1∧m=jj+1-ii∧fr 0=.ms q 0 l.length∧fr 1=i a∧fr 10=i ii∧fr 11=i jj∧st2=bx st q c∧Lo P c a ii) (jj+1-ii) ?_ ?_
  ·exact⟨ii,oO,oO,rfl,by simp[f0],by simp[f1],by simp[fI],by simp[fJ],rfl,hLo⟩
  clear f0 f1 fI fJ hLo hai hij fr ii
  rintro m fr st2 ⟨ii,hai,hij,rfl,f0,f1,fI,fJ,rfl,hLo⟩ JJ hJJ
  have hia:=qN ii oO
  by_cases hle:ii≤jj
  rotate_left
  ·clear hJJ
   (repeat (refine qS ?_));(refine w_s [] [q] [(0,true),(1,true),(2,true),(3,true),(4,true),(5,true),(6,true),(7,true),(8,true),(9,true),(10,true),(11,true),(12,false),(13,true)] ?_;intro J hJ;simp[f0,f1,fI,fJ,hle];refine hJ _ _ (zZ ?_))
   (repeat' (first|(refine qX (zZ ?_))|(refine qC ?_;simp[])))
   exact⟨trivial,ii,oO,oO,by simp[f0],by simp[f1],by simp[fI],by simp[fJ],by trivial,hLo,fun h=>absurd h hle⟩
  have hli:ii<l.length:=oO
  have hd1:=qG c ii oO
  have hmo:=hLo.more
  generalize hy:c.getD ii 0=y at *
  (repeat (refine qS ?_));(refine w_s [] [q] [(0,true),(1,true),(2,true),(3,true),(4,true),(5,true),(6,true),(7,true),(8,true),(9,true),(10,true),(11,true),(12,false),(13,true)] ?_;intro J hJ;simp[f0,f1,fI,fJ,hle,hli,hla,hcl,hd0,hd1])
  refine aO (pF y x _) ?_;rintro r s2 ⟨rfl,rfl⟩
  refine⟨fun _=>by simp,?_⟩
  have hP:=hPd y
  by_cases hyx:y<x
  ·(refine bE ?_;simp[hyx];refine hJ _ _ (zZ ?_))
   (repeat' (first|refine qB ?_|(refine qK (zZ ?_))|(refine qC ?_;simp[fI,hia])|(refine w_e [] ?_;intro J hJ;simp only[];simp[fI,hia];refine hJ _ _ (zZ ?_))))
   exact hJJ (jj+1-(ii+1)) _ _ oO ⟨ii+1,oO,oO,rfl,by simp[f0],by simp[f1],sS,by simp[fJ],rfl,hmo (by rw[hP];simp[hyx])⟩
  ·clear hJJ
   (refine bE ?_;simp[hyx];refine hJ _ _ (zZ ?_))
   (repeat' (first|(refine qX (zZ ?_))|(refine qC ?_;simp[])))
   exact⟨trivial,ii,oO,oO,by simp[f0],by simp[f1],by simp[fI],by simp[fJ],by trivial,hLo,fun _=>by rw[hy,hP];simp[hyx]⟩
 clear f0 f1 fI fJ hLo hai hij fr ii
 rintro fr st2 ⟨ii,hai,hij,f0,f1,fI,fJ,rfl,hLo,hst⟩
 refine qS ?_
 refine bU (fun fr st2=>∃ kk:Nat,a≤kk∧kk≤jj∧ii≤kk+1∧fr 0=.ms q 0 l.length∧fr 1=i a∧fr 10=i ii∧fr 11=i kk∧st2=bx st q c∧Hi P c kk b∧StD P c ii kk) ?_ ?_
 ·refine qB ?_
  refine qL (fun m fr st2=>∃ kk:Nat,a≤kk∧kk≤jj∧ii≤kk+1∧kk=m∧fr 0=.ms q 0 l.length∧fr 1=i a∧fr 10=i ii∧fr 11=i kk∧st2=bx st q c∧Hi P c kk b) jj ?_ ?_
  ·exact⟨jj,oO,oO,oO,rfl,by simp[f0],by simp[f1],by simp[fI],by simp[fJ],rfl,hHi⟩
  clear f0 f1 fI fJ hHi fr
  rintro m fr st2 ⟨kk,hak,hkj,hik,rfl,f0,f1,fI,fJ,rfl,hHi⟩ JJ hJJ
  by_cases hle:ii≤kk
  rotate_left
  ·clear hJJ
   (repeat (refine qS ?_));(refine w_s [] [q] [(0,true),(1,true),(2,true),(3,true),(4,true),(5,true),(6,true),(7,true),(8,true),(9,true),(10,true),(11,true),(12,false),(13,true),(14,true)] ?_;intro J hJ;simp[f0,f1,fI,fJ,hle];refine hJ _ _ (zZ ?_))
   (repeat' (first|(refine qX (zZ ?_))|(refine qC ?_;simp[])))
   exact⟨trivial,kk,oO,oO,oO,by simp[f0],by simp[f1],by simp[fI],by simp[fJ],by trivial,hHi,fun h=>absurd h hle⟩
  have hja:=aR kk oO oO
  have hlj:kk<l.length:=oO
  have hd1:=qG c kk oO
  have hmo:=hHi.more
  generalize hy:c.getD kk 0=y at *
  (repeat (refine qS ?_));(refine w_s [] [q] [(0,true),(1,true),(2,true),(3,true),(4,true),(5,true),(6,true),(7,true),(8,true),(9,true),(10,true),(11,true),(12,false),(13,true),(14,true)] ?_;intro J hJ;simp[f0,f1,fI,fJ,hle,hlj,hla,hcl,hd0,hd1])
  refine aO (pF y x _) ?_;rintro r s2 ⟨rfl,rfl⟩
  refine⟨fun _=>by simp,?_⟩
  have hP:=hPd y
  by_cases hyx:y<x
  ·clear hJJ
   (refine bE ?_;simp[hyx];refine hJ _ _ (zZ ?_))
   (repeat' (first|(refine qX (zZ ?_))|(refine qC ?_;simp[])))
   exact⟨trivial,kk,oO,oO,oO,by simp[f0],by simp[f1],by simp[fI],by simp[fJ],by trivial,hHi,fun _=>by rw[hy,hP];simp[hyx]⟩
  ·(refine bE ?_;simp[hyx];refine hJ _ _ (zZ ?_))
   (repeat' (first|refine qB ?_|(refine qK (zZ ?_))|(refine qC ?_;simp[fJ,hja])|(refine w_e [] ?_;intro J hJ;simp only[];simp[fJ,hja];refine hJ _ _ (zZ ?_))))
   exact hJJ (kk-1) _ _ oO ⟨kk-1,oO,oO,oO,rfl,by simp[f0],by simp[f1],by simp[fI],sS,rfl,hmo oO (by rw[hP];simp[hyx])⟩
 clear f0 f1 fI fJ hHi fr
 rintro fr st2 ⟨kk,hak,hkj,hik,f0,f1,fI,fJ,rfl,hHi,hst2⟩
 by_cases hle:ii≤kk
 rotate_left
 ·clear hJ0
  have hke:ii=kk+1:=oO
  have hpl:=sW (hke ▸ hLo) hHi oO oO oO
  have hpm2:=hpm.step kk a oO oO oO oO oO
  have hlk:kk<l.length:=oO
  have hd1:=qG c kk oO
  have hsw:=fun x y=>gF st q c kk a (x:=x) (y:=y) oO oO
  generalize hy1:c.getD kk 0=y1 at *
  have hsw':=hsw y1 x rfl hx
  (repeat' (first|refine qS ?_|(refine qX (zZ ?_))|(refine qC ?_;simp[f0,f1,fI,fJ,hle];(try with_reducible intro hc))|(refine w_e [] ?_;intro J hJ;simp only[];simp[f0,f1,fI,fJ,hle];refine hJ _ _ (zZ ?_))))
  (refine w_s [] [q] [(0,true),(1,true),(2,true),(3,true),(4,true),(5,true),(6,true),(7,true),(8,true),(9,true),(10,true),(11,true),(12,true),(13,false),(14,true),(15,false)] ?_;intro J hJ;simp[f0,f1,fI,fJ,hla,hlk,hcl,hd0,hd1];(repeat refine ca ?_);refine hJ _ _ (zZ ?_))
  (repeat' (first|refine qS ?_|(refine qR (zZ ?_);simp[f0,f1,fI,fJ])|(refine w_e [] ?_;intro J hJ;simp only[];simp[f0,f1,fI,fJ];refine hJ _ _ (zZ ?_))))
  exact⟨_,kk,rfl,hsw',hpm2,oO,oO,by unfold cN;rw[hpl.2,hx];have h:=hpl.1;rwa [show P=_ from funext hPd]at h⟩
 have hik2:ii<kk:=by
  rcases Nat.lt_or_ge ii kk with h|h
  ·exact h
  ·exfalso
   have e:ii=kk:=oO
   have h1:=hst oO
   have h2:=hst2 hle
   rw[e,h2]at h1;cases h1
 have hLo2:=hLo.swp hik2 oO (hst2 hle)
 have hHi2:=hHi.swp hik2 oO (hst oO)
 have hpm2:=hpm.step ii kk oO oO oO oO oO
 have hxx:(sw c ii kk).getD a 0=x:=by rw[cK _ _ _ _ oO oO,if_neg oO,if_neg oO];exact hx
 have hli:ii<l.length:=oO
 have hlk:kk<l.length:=oO
 have hd1:=qG c ii oO
 have hd2:=qG c kk oO
 have hsw:=fun x y=>gF st q c ii kk (x:=x) (y:=y) oO oO
 have hia:=qN ii oO
 have hka:=aR kk oO oO
 clear hst hst2
 generalize hy1:c.getD ii 0=y1 at *
 generalize hy2:c.getD kk 0=y2 at *
 have hsw':=hsw y1 y2 rfl rfl
 (repeat' (first|refine qS ?_|(refine qK (zZ ?_))|(refine qC ?_;simp[f0,f1,fI,fJ,hle];(try with_reducible refine⟨?_,?_⟩)<;>(try with_reducible intro hc)<;>try (exfalso;omega))|(refine w_e [] ?_;intro J hJ;simp only[];simp[f0,f1,fI,fJ,hle];refine hJ _ _ (zZ ?_))))
 (refine w_s [] [q] [(0,true),(1,true),(2,true),(3,true),(4,true),(5,true),(6,true),(7,true),(8,true),(9,true),(10,true),(11,true),(12,true),(13,false),(14,true),(15,false)] ?_;intro J hJ;simp[f0,f1,fI,fJ,hli,hlk,hcl,hd1,hd2];(repeat refine ca ?_);refine hJ _ _ (zZ ?_))
 (repeat' (first|refine qS ?_|(refine w_e [] ?_;intro J hJ;simp only[];simp[fI,fJ,hia,hka];refine hJ _ _ (zZ ?_))))
 exact hJ0 (kk-1) _ _ oO ⟨ii+1,kk-1,sw c ii kk,oO,oO,oO,rfl,by simp[f0],by simp[f1],sS,sS,hsw',hpm2,hxx,hLo2,hHi2⟩
theorem wN(l:List Int)(q a b pv:Nat)(st:St)(hl:small l)(hab:a<b)(hb:b≤l.length)(hp1:a≤pv)(hp2:pv<b)(hH:st.H q=.box 34 1 (us l)):
 aB Tryz.prog 173 [.ms q 0 l.length,i a,i b,i pv] st fun r st'=>∃(c:List Int) (mid:Nat),r=i mid∧st'=bx st q c∧Pm a b l c∧a<mid∧mid≤b∧aDN c a mid b (l.getD pv 0):=by
 unfold small at hl
 refine qO aF Tryz.func173 rfl rfl Tryz.ntmps173 (rs:=[.tmp 8]) rfl sS ?_
 (repeat (refine qS ?_));(refine w_e [] ?_;intro J hJ;simp only[];simp[];refine hJ _ _ (zZ ?_))
 have hla:a<l.length:=oO
 have hlp:pv<l.length:=oO
 have hsw:=fun x y=>aFl st q l a pv (x:=x) (y:=y) oO oO
 have hd0:=qG l a oO
 have hd1:=qG l pv oO
 have hpm:Pm a b l (sw l a pv):=Pm.one a pv oO oO oO oO oO
 have hx:(sw l a pv).getD a 0=l.getD pv 0:=by
  rw[cK _ _ _ _ oO oO]
  by_cases e:a=pv
  ·rw[if_pos e,e]
  ·rw[if_neg e,if_pos rfl]
 generalize hy0:l.getD a 0=y0 at *
 generalize hy1:l.getD pv 0=x at *
 have hsw':=hsw y0 x rfl rfl
 (repeat (refine qS ?_));(refine w_s [] [q] [(0,true),(1,true),(2,true),(3,true),(4,true),(5,true),(6,true),(7,true),(8,true),(9,true),(10,true),(11,true),(12,true),(13,false),(14,true),(15,false)] ?_;intro J hJ;simp[hH,hla,hlp,hd0,hd1];(repeat refine ca ?_);refine hJ _ _ (zZ ?_))
 rw[hsw']
 clear hsw hsw' hd0 hd1 hy0
 generalize hc:sw l a pv=c at *
 clear hc
 have hcl:=hpm.len
 have w1:=qN a oO
 have w2:=aR b oO oO
 obtain⟨P,hPd⟩:∃ P:Int→Bool,∀ v,P v=!decide (x<v):=⟨_,fun _=>rfl⟩
 refine qS ?_
 refine bU (fun fr st2=>fr 0=.ms q 0 l.length∧fr 1=i a∧fr 9=i ((a+1:Nat):Int)∧fr 10=i ((b-1:Nat):Int)∧st2=bx st q c) (by(refine w_e [] ?_;intro J hJ;simp only[];simp[w1,w2];refine hJ _ _ (zZ ?_));simp) ?_
 rintro fr st2 ⟨f0,f1,fI,fJ,rfl⟩
 have hai:a<a+1:=oO
 have hij:a+1≤b-1+1:=oO
 have hjb:b-1<b:=oO
 have hLo:Lo P c a (a+1):=fun p h1 h2=>by omega
 have hHi:Hi P c (b-1) b:=fun p h1 h2=>by omega
 generalize a+1=ii at *
 generalize b-1=jj at *
 clear w1 w2
 have hd0:=qG c a oO
 rw[hx]at hd0
 refine qS ?_
 refine qB ?_
 refine qL (fun m fr st2=>∃(ii jj:Nat) (c:List Int),a<ii∧ii≤jj+1∧jj<b∧jj=m∧fr 0=.ms q 0 l.length∧fr 1=i a∧fr 9=i ii∧fr 10=i jj∧st2=bx st q c∧Pm a b l c∧c.getD a 0=x∧Lo P c a ii∧Hi P c jj b) jj ?_ ?_
 ·exact⟨ii,jj,c,oO,oO,oO,rfl,f0,f1,fI,fJ,rfl,hpm,hx,hLo,hHi⟩
 clear f0 f1 fI fJ hLo hHi hpm hx hcl hd0 hai hij hjb ii jj c fr
 rintro m fr st2 ⟨ii,jj,c,hai,hij,hjb,rfl,f0,f1,fI,fJ,rfl,hpm,hx,hLo,hHi⟩ JJ0 hJ0
 have hcl:=hpm.len
 have hd0:=qG c a oO
 rw[hx]at hd0
 refine qB ?_
 refine qS ?_
 refine bU (fun fr st2=>∃ ii:Nat,a<ii∧ii≤jj+1∧fr 0=.ms q 0 l.length∧fr 1=i a∧fr 9=i ii∧fr 10=i jj∧st2=bx st q c∧Lo P c a ii∧StU P c ii jj) ?_ ?_
 ·refine qB ?_
  refine qL (fun m fr st2=>∃ ii:Nat,a<ii∧ii≤jj+1∧m=jj+1-ii∧fr 0=.ms q 0 l.length∧fr 1=i a∧fr 9=i ii∧fr 10=i jj∧st2=bx st q c∧Lo P c a ii) (jj+1-ii) ?_ ?_
  ·exact⟨ii,oO,oO,rfl,by simp[f0],by simp[f1],by simp[fI],by simp[fJ],rfl,hLo⟩
  clear f0 f1 fI fJ hLo hai hij fr ii
  rintro m fr st2 ⟨ii,hai,hij,rfl,f0,f1,fI,fJ,rfl,hLo⟩ JJ hJJ
  have hia:=qN ii oO
  by_cases hle:ii≤jj
  rotate_left
  ·clear hJJ
   (repeat (refine qS ?_));(refine w_s [] [q] [(0,true),(1,true),(2,true),(3,true),(4,true),(5,true),(6,true),(7,true),(8,true),(9,true),(10,true),(11,true),(12,false),(13,true),(14,true)] ?_;intro J hJ;simp[f0,f1,fI,fJ,hle];refine hJ _ _ (zZ ?_))
   (repeat' (first|(refine qX (zZ ?_))|(refine qC ?_;simp[])))
   exact⟨trivial,ii,oO,oO,by simp[f0],by simp[f1],by simp[fI],by simp[fJ],by trivial,hLo,fun h=>absurd h hle⟩
  have hli:ii<l.length:=oO
  have hd1:=qG c ii oO
  have hmo:=hLo.more
  generalize hy:c.getD ii 0=y at *
  (repeat (refine qS ?_));(refine w_s [] [q] [(0,true),(1,true),(2,true),(3,true),(4,true),(5,true),(6,true),(7,true),(8,true),(9,true),(10,true),(11,true),(12,false),(13,true),(14,true)] ?_;intro J hJ;simp[f0,f1,fI,fJ,hle,hli,hla,hcl,hd0,hd1])
  refine aO (pF x y _) ?_;rintro r s2 ⟨rfl,rfl⟩
  refine⟨fun _=>by simp,?_⟩
  have hP:=hPd y
  by_cases hyx:x<y
  ·clear hJJ
   (refine bE ?_;simp[hyx];refine hJ _ _ (zZ ?_))
   (repeat' (first|(refine qX (zZ ?_))|(refine qC ?_;simp[])))
   exact⟨trivial,ii,oO,oO,by simp[f0],by simp[f1],by simp[fI],by simp[fJ],by trivial,hLo,fun _=>by rw[hy,hP];simp[hyx]⟩
  ·(refine bE ?_;simp[hyx];refine hJ _ _ (zZ ?_))
   (repeat' (first|refine qB ?_|(refine qK (zZ ?_))|(refine qC ?_;simp[fI,hia])|(refine w_e [] ?_;intro J hJ;simp only[];simp[fI,hia];refine hJ _ _ (zZ ?_))))
   exact hJJ (jj+1-(ii+1)) _ _ oO ⟨ii+1,oO,oO,rfl,by simp[f0],by simp[f1],sS,by simp[fJ],rfl,hmo (by rw[hP];simp[hyx])⟩
 clear f0 f1 fI fJ hLo hai hij fr ii
 rintro fr st2 ⟨ii,hai,hij,f0,f1,fI,fJ,rfl,hLo,hst⟩
 refine qS ?_
 refine bU (fun fr st2=>∃ kk:Nat,a≤kk∧kk≤jj∧ii≤kk+1∧fr 0=.ms q 0 l.length∧fr 1=i a∧fr 9=i ii∧fr 10=i kk∧st2=bx st q c∧Hi P c kk b∧StD P c ii kk) ?_ ?_
 ·refine qB ?_
  refine qL (fun m fr st2=>∃ kk:Nat,a≤kk∧kk≤jj∧ii≤kk+1∧kk=m∧fr 0=.ms q 0 l.length∧fr 1=i a∧fr 9=i ii∧fr 10=i kk∧st2=bx st q c∧Hi P c kk b) jj ?_ ?_
  ·exact⟨jj,oO,oO,oO,rfl,by simp[f0],by simp[f1],by simp[fI],by simp[fJ],rfl,hHi⟩
  clear f0 f1 fI fJ hHi fr
  rintro m fr st2 ⟨kk,hak,hkj,hik,rfl,f0,f1,fI,fJ,rfl,hHi⟩ JJ hJJ
  by_cases hle:ii≤kk
  rotate_left
  ·clear hJJ
   (repeat (refine qS ?_));(refine w_s [] [q] [(0,true),(1,true),(2,true),(3,true),(4,true),(5,true),(6,true),(7,true),(8,true),(9,true),(10,true),(11,true),(12,false),(13,true)] ?_;intro J hJ;simp[f0,f1,fI,fJ,hle];refine hJ _ _ (zZ ?_))
   (repeat' (first|(refine qX (zZ ?_))|(refine qC ?_;simp[])))
   exact⟨trivial,kk,oO,oO,oO,by simp[f0],by simp[f1],by simp[fI],by simp[fJ],by trivial,hHi,fun h=>absurd h hle⟩
  have hja:=aR kk oO oO
  have hlj:kk<l.length:=oO
  have hd1:=qG c kk oO
  have hmo:=hHi.more
  generalize hy:c.getD kk 0=y at *
  (repeat (refine qS ?_));(refine w_s [] [q] [(0,true),(1,true),(2,true),(3,true),(4,true),(5,true),(6,true),(7,true),(8,true),(9,true),(10,true),(11,true),(12,false),(13,true)] ?_;intro J hJ;simp[f0,f1,fI,fJ,hle,hlj,hla,hcl,hd0,hd1])
  refine aO (pF x y _) ?_;rintro r s2 ⟨rfl,rfl⟩
  refine⟨fun _=>by simp,?_⟩
  have hP:=hPd y
  by_cases hyx:x<y
  ·(refine bE ?_;simp[hyx];refine hJ _ _ (zZ ?_))
   (repeat' (first|refine qB ?_|(refine qK (zZ ?_))|(refine qC ?_;simp[fJ,hja])|(refine w_e [] ?_;intro J hJ;simp only[];simp[fJ,hja];refine hJ _ _ (zZ ?_))))
   exact hJJ (kk-1) _ _ oO ⟨kk-1,oO,oO,oO,rfl,by simp[f0],by simp[f1],by simp[fI],sS,rfl,hmo oO (by rw[hP];simp[hyx])⟩
  ·clear hJJ
   (refine bE ?_;simp[hyx];refine hJ _ _ (zZ ?_))
   (repeat' (first|(refine qX (zZ ?_))|(refine qC ?_;simp[])))
   exact⟨trivial,kk,oO,oO,oO,by simp[f0],by simp[f1],by simp[fI],by simp[fJ],by trivial,hHi,fun _=>by rw[hy,hP];simp[hyx]⟩
 clear f0 f1 fI fJ hHi fr
 rintro fr st2 ⟨kk,hak,hkj,hik,f0,f1,fI,fJ,rfl,hHi,hst2⟩
 by_cases hle:ii≤kk
 rotate_left
 ·clear hJ0
  (repeat' (first|refine qS ?_|(refine qX (zZ ?_))|(refine qR (zZ ?_);simp[f0,f1,fI,fJ,hle])|(refine qC ?_;simp[f0,f1,fI,fJ,hle];(try with_reducible intro hc))|(refine w_e [] ?_;intro J hJ;simp only[];simp[f0,f1,fI,fJ,hle];refine hJ _ _ (zZ ?_))))
  refine⟨c,ii,rfl,rfl,hpm,oO,oO,fun p h1 h2=>?_,fun p h1 h2=>?_⟩
  ·by_cases e:p=a
   ·rw[e,hx];exact Int.le_refl _
   ·have:=hLo p oO h2;rw[hPd]at this;simpa using this
  ·have:=hHi p oO h2;rw[hPd]at this;simpa using this
 have hik2:ii<kk:=by
  rcases Nat.lt_or_ge ii kk with h|h
  ·exact h
  ·exfalso
   have e:ii=kk:=oO
   have h1:=hst oO
   have h2:=hst2 hle
   rw[e,h2]at h1;cases h1
 have hLo2:=hLo.swp hik2 oO (hst2 hle)
 have hHi2:=hHi.swp hik2 oO (hst oO)
 have hpm2:=hpm.step ii kk oO oO oO oO oO
 have hxx:(sw c ii kk).getD a 0=x:=by rw[cK _ _ _ _ oO oO,if_neg oO,if_neg oO];exact hx
 have hli:ii<l.length:=oO
 have hlk:kk<l.length:=oO
 have hd1:=qG c ii oO
 have hd2:=qG c kk oO
 have hsw:=fun x y=>gF st q c ii kk (x:=x) (y:=y) oO oO
 have hia:=qN ii oO
 have hka:=aR kk oO oO
 clear hst hst2
 generalize hy1:c.getD ii 0=y1 at *
 generalize hy2:c.getD kk 0=y2 at *
 have hsw':=hsw y1 y2 rfl rfl
 (repeat' (first|refine qS ?_|(refine qK (zZ ?_))|(refine qC ?_;simp[f0,f1,fI,fJ,hle];(try with_reducible refine⟨?_,?_⟩)<;>(try with_reducible intro hc)<;>try (exfalso;omega))|(refine w_e [] ?_;intro J hJ;simp only[];simp[f0,f1,fI,fJ,hle];refine hJ _ _ (zZ ?_))))
 (refine w_s [] [q] [(0,true),(1,true),(2,true),(3,true),(4,true),(5,true),(6,true),(7,true),(8,true),(9,true),(10,true),(11,true),(12,true),(13,false),(14,true),(15,false)] ?_;intro J hJ;simp[f0,f1,fI,fJ,hli,hlk,hcl,hd1,hd2];(repeat refine ca ?_);refine hJ _ _ (zZ ?_))
 (repeat' (first|refine qS ?_|(refine w_e [] ?_;intro J hJ;simp only[];simp[fI,fJ,hia,hka];refine hJ _ _ (zZ ?_))))
 exact hJ0 (kk-1) _ _ oO ⟨ii+1,kk-1,sw c ii kk,oO,oO,oO,rfl,by simp[f0],by simp[f1],sS,sS,hsw',hpm2,hxx,hLo2,hHi2⟩
def eV(l:List Int)(a b:Nat):Prop:=0<a→∀ j,a≤j→j<b→l.getD (a-1) 0≤l.getD j 0
theorem eV.pm{l c:List Int}{a b:Nat}(h:eV l a b)(k:Pm a b l c):eV c a b:=by
 intro h0 j h1 h2
 rw[k.out (a-1) oO]
 exact k.all (fun x=>l.getD (a-1) 0≤x) (fun j h1 h2=>h h0 j h1 h2) j h1 h2
def aPB(c:List Int)(k b:Nat):Prop:=k<b→c.getD k 0<c.getD (k-1) 0
def aQq(p:Bool)(a b:Nat)(c:List Int):Prop:=p=true→Srt a b c
def aMu(q a b k j:Nat)(l:List Int)(st:St)(fr:Frm)(st2:St):Prop:=∃ c:List Int,fr 0=.ms q 0 l.length∧fr 1=i a∧fr 2=i b∧fr 7=i k∧fr 8=i j∧st2=bx st q c∧Pm a b l c∧Srt a k c
theorem mM(l:List Int)(q a b:Nat)(st:St)(hl:small l)(ha:a<b)(hb:b≤l.length)(hah:eV l a b)(hH:st.H q=.box 34 1 (us l)):
 aB Tryz.prog 171 [.ms q 0 l.length,i a,i b] st fun r st'=>∃ c p,r=bb p∧st'=bx st q c∧Pm a b l c∧aQq p a b c:=by
 unfold small at hl
 refine qO aF Tryz.func171 rfl rfl Tryz.ntmps171 (rs:=[.tmp 6]) rfl sS ?_
 have hw0:=qN a oO
 (repeat' (first|refine qS ?_|refine qB ?_|(refine w_e [] ?_;intro J hJ;simp only[];simp[hw0];refine hJ _ _ (zZ ?_))))
 refine qL (fun n fr st2=>∃(j k:Nat) (c:List Int),j≤5∧n=5-j∧a<k∧k≤b∧fr 0=.ms q 0 l.length∧fr 1=i a∧fr 2=i b∧fr 7=i k∧fr 8=i j∧st2=bx st q c∧Pm a b l c∧Srt a k c) 5 ?_ ?_
 ·exact⟨0,a+1,l,oO,rfl,oO,oO,sS,sS,sS,sS,sS,gT hH,.refl,fun p q h1 h2 h3=>by omega⟩
 rintro n fr st2 ⟨j,k,c,hj,rfl,hak,hkb,f0,f1,f2,f7,f8,rfl,hpm,hs⟩ J0 hJ0
 by_cases hj5:(j:Int)<5
 rotate_left
 ·clear hJ0
  (repeat' (first|refine qS ?_|(refine qX (zZ ?_))|(refine qR (zZ ?_);simp[f8,hj5])|(refine qC ?_;simp[f8,hj5])|(refine w_e [] ?_;intro J hJ;simp only[];simp[f8,hj5];refine hJ _ _ (zZ ?_))))
  exact⟨c,rfl,hpm,fun h=>by cases h⟩
 have hcl:=hpm.len
 (repeat (refine qS ?_));(refine w_e [] ?_;intro J hJ;simp only[];simp[f8,hj5];refine hJ _ _ (zZ ?_))
 (refine qC ?_;simp[])
 refine qK (zZ ?_)
 refine qS ?_
 refine qB ?_
 refine qS ?_
 refine bU (fun fr st2=>∃ k:Nat,a<k∧k≤b∧fr 0=.ms q 0 l.length∧fr 1=i a∧fr 2=i b∧fr 7=i k∧fr 8=i j∧st2=bx st q c∧Srt a k c∧aPB c k b) ?_ ?_
 ·refine qB ?_
  refine qL (fun n fr st2=>∃ k:Nat,n=b-k∧a<k∧k≤b∧fr 0=.ms q 0 l.length∧fr 1=i a∧fr 2=i b∧fr 7=i k∧fr 8=i j∧st2=bx st q c∧Srt a k c) (b-k) ?_ ?_
  ·exact⟨k,rfl,hak,hkb,by simp[f0],by simp[f1],by simp[f2],by simp[f7],by simp[f8],rfl,hs⟩
  clear f0 f1 f2 f7 f8 hs hak hkb fr k
  rintro n fr st2 ⟨k,rfl,hak,hkb,f0,f1,f2,f7,f8,rfl,hs⟩ JJ hJJ
  by_cases hlt:k<b
  rotate_left
  ·clear hJJ
   (repeat (refine qS ?_));(refine w_s [] [q] [(0,true),(1,true),(2,true),(3,true),(4,true),(5,true),(6,true),(7,true),(8,true),(9,true),(10,true),(11,true),(12,true),(13,false),(14,true),(15,true)] ?_;intro J hJ;simp[f0,f2,f7,hlt];refine hJ _ _ (zZ ?_))
   (repeat' (first|(refine qX (zZ ?_))|(refine qC ?_;simp[])))
   exact⟨trivial,k,oO,oO,by simp[f0],by simp[f1],by simp[f2],by simp[f7],by simp[f8],by trivial,hs,fun h=>absurd h hlt⟩
  have w1:=qN k oO
  have w2:=aR k oO oO
  have hd1:=qG c k oO
  have hd2:=qG c (k-1) oO
  have hl1:k<l.length:=oO
  have hl2:k-1<l.length:=oO
  have hin:=hs.ins.done oO
  generalize hx:c.getD k 0=x at *
  generalize hy:c.getD (k-1) 0=y at *
  (repeat (refine qS ?_));(refine w_s [] [q] [(0,true),(1,true),(2,true),(3,true),(4,true),(5,true),(6,true),(7,true),(8,true),(9,true),(10,true),(11,true),(12,true),(13,false),(14,true),(15,true)] ?_;intro J hJ;simp[f0,f2,f7,hlt,w2,hl1,hl2,hcl,hd1,hd2])
  refine aO (pF x y _) ?_;rintro r s2 ⟨rfl,rfl⟩
  refine⟨fun _=>by simp,?_⟩
  by_cases hxy:x<y
  ·clear hJJ
   (refine bE ?_;simp[hxy];refine hJ _ _ (zZ ?_))
   (repeat' (first|(refine qX (zZ ?_))|(refine qC ?_;simp[])))
   exact⟨trivial,k,oO,oO,by simp[f0],by simp[f1],by simp[f2],by simp[f7],by simp[f8],by trivial,hs,fun h=>by rw[hx,hy];exact hxy⟩
  ·(refine bE ?_;simp[hxy];refine hJ _ _ (zZ ?_))
   (repeat' (first|refine qB ?_|(refine qK (zZ ?_))|(refine qC ?_;simp[f7,w1])|(refine w_e [] ?_;intro J hJ;simp only[];simp[f7,w1];refine hJ _ _ (zZ ?_))))
   exact hJJ (b-(k+1)) _ _ oO ⟨k+1,rfl,oO,oO,by simp[f0],by simp[f1],by simp[f2],sS,by simp[f8],rfl,hin (.inr hxy)⟩
 clear f0 f1 f2 f7 f8 hs hak hkb fr k
 rintro fr st2 ⟨k,hak,hkb,f0,f1,f2,f7,f8,rfl,hs,hfall⟩
 by_cases hkb2:k=b
 ·clear hJ0
  have hkb3:(k:Int)=(b:Int):=oO
  (repeat' (first|refine qS ?_|(refine qR (zZ ?_);simp[f2,f7,hkb3])|(refine qC ?_;simp[f2,f7,hkb3])|(refine w_e [] ?_;intro J hJ;simp only[];simp[f2,f7,hkb3];refine hJ _ _ (zZ ?_))))
  exact⟨c,rfl,hpm,fun _=>by rw[← hkb2];exact hs⟩
 have hkb3:¬(k:Int)=(b:Int):=oO
 have w1:IntKind.i64.wrap ((b:Int)-(a:Int))=(b:Int)-(a:Int):=wrap_i64 _ oO oO
 by_cases h50:(b:Int)-(a:Int)<50
 ·clear hJ0
  (repeat' (first|refine qS ?_|(refine qK (zZ ?_))|(refine qR (zZ ?_);simp[f1,f2,f7,hkb3,w1,h50])|(refine qC ?_;simp[f1,f2,f7,hkb3,w1,h50])|(refine w_e [] ?_;intro J hJ;simp only[];simp[f1,f2,f7,hkb3,w1,h50];refine hJ _ _ (zZ ?_))))
  exact⟨c,rfl,hpm,fun h=>by cases h⟩
 have w2:=aR k oO oO
 have hd1:=qG c k oO
 have hd2:=qG c (k-1) oO
 have hl1:k<l.length:=oO
 have hl2:k-1<l.length:=oO
 have hsw:=fun x y=>gF st q c k (k-1) (x:=x) (y:=y) oO oO
 have hs1:Srt a (k-1) (sw c k (k-1)):=by
  intro p q h1 h2 h3
  rw[cK _ _ _ _ oO oO,cK _ _ _ _ oO oO,if_neg oO,if_neg oO,if_neg oO,if_neg oO]
  exact hs p q h1 h2 oO
 have hpm1:=hpm.step k (k-1) oO oO oO oO oO
 generalize hx:c.getD k 0=x at *
 generalize hy:c.getD (k-1) 0=y at *
 have hsw':=hsw x y rfl rfl
 (repeat' (first|refine qS ?_|(refine qK (zZ ?_))|(refine qC ?_;simp[f1,f2,f7,hkb3,w1,h50])|(refine w_e [] ?_;intro J hJ;simp only[];simp[f1,f2,f7,hkb3,w1,h50];refine hJ _ _ (zZ ?_))))
 (refine w_s [] [q] [(0,true),(1,true),(2,true),(3,true),(4,true),(5,true),(6,true),(7,true),(8,true),(9,true),(10,true),(11,true),(12,true),(13,true),(14,true),(15,false),(16,true),(17,false)] ?_;intro J hJ;simp[f0,f7,w2,hl1,hl2,hcl,hd1,hd2];(repeat refine ca ?_);refine hJ _ _ (zZ ?_))
 rw[hsw']
 clear hsw hsw' hd1 hd2 hx hy hs hfall
 generalize hc1:sw c k (k-1)=c1 at *
 have hcl1:=hpm1.len
 clear hc1 hpm hcl c
 have w3:IntKind.i64.wrap ((k:Int)-(a:Int))=(k:Int)-(a:Int):=wrap_i64 _ oO oO
 refine qS ?_
 refine bU (aMu q a b k j l st) ?_ ?_
 ·by_cases hk2:(2:Int)≤(k:Int)-(a:Int)
  rotate_left
  ·(repeat' (first|refine qS ?_|(refine qK (zZ ?_))|(refine qC ?_;simp[f1,f7,w3,hk2])|(refine w_e [] ?_;intro J hJ;simp only[];simp[f1,f7,w3,hk2];refine hJ _ _ (zZ ?_))))
   refine⟨by trivial,?_⟩;unfold aMu;exact⟨c1,by simp[f0],by simp[f1],by simp[f2],by simp[f7],by simp[f8],by trivial,hpm1,fun p q h1 h2 h3=>by omega⟩
  (repeat' (first|refine qS ?_|refine qB ?_|(refine qC ?_;simp[f1,f7,w3,hk2,w2])|(refine w_e [] ?_;intro J hJ;simp only[];simp[f1,f7,w3,hk2,w2];refine hJ _ _ (zZ ?_))))
  refine qL (fun n fr st2=>∃(m:Nat) (c:List Int),a≤m∧m≤k-1∧m=n∧fr 0=.ms q 0 l.length∧fr 1=i a∧fr 2=i b∧fr 7=i k∧fr 8=i j∧fr 9=i m∧st2=bx st q c∧Pm a b l c∧Ins a m (k-1) c) (k-1) ?_ ?_
  ·exact⟨k-1,c1,oO,oO,rfl,by simp[f0],by simp[f1],by simp[f2],by simp[f7],by simp[f8],sS,rfl,hpm1,hs1.ins⟩
  clear f0 f1 f2 f7 f8 hpm1 hs1 hcl1 c1 fr
  rintro n fr st2 ⟨m,c,ham,hmk,rfl,f0,f1,f2,f7,f8,f9,rfl,hpm,hI⟩ JJ hJJ
  have hcl:=hpm.len
  have hk1:k-1+1=k:=oO
  by_cases hm1:(1:Int)≤(m:Int)
  rotate_left
  ·clear hJJ
   (repeat' (first|refine qS ?_|(refine qX (zZ ?_))|(refine qC ?_;simp[f9,hm1])|(refine w_e [] ?_;intro J hJ;simp only[];simp[f9,hm1];refine hJ _ _ (zZ ?_))))
   refine⟨by trivial,?_⟩;unfold aMu;refine⟨c,by simp[f0],by simp[f1],by simp[f2],by simp[f7],by simp[f8],by trivial,hpm,?_⟩
   have:=hI.done ham (.inl oO);rwa [hk1]at this
  have w4:=aR m oO oO
  have hd1:=qG c m oO
  have hd2:=qG c (m-1) oO
  have hl3:m<l.length:=oO
  have hl4:m-1<l.length:=oO
  have hsw:=fun x y=>gF st q c m (m-1) (x:=x) (y:=y) oO oO
  have hahm:m=a→¬c.getD m 0<c.getD (m-1) 0:=by
   rintro rfl
   have:=hah.pm hpm oO m oO oO
   omega
  have hdone:=hI.done ham
  rw[hk1]at hdone
  have hstep:=fun h=>hI.step h hmk oO
  generalize hx:c.getD m 0=x at *
  generalize hy:c.getD (m-1) 0=y at *
  have hsw':=hsw x y rfl rfl
  (repeat' (first|refine qS ?_|refine qB ?_|(refine qK (zZ ?_))|(refine qC ?_;simp[f9,hm1])|(refine w_e [] ?_;intro J hJ;simp only[];simp[f9,hm1];refine hJ _ _ (zZ ?_))))
  (refine w_s [] [q] [(0,true),(1,true),(2,true),(3,true),(4,true),(5,true),(6,true),(7,true),(8,true),(9,false),(10,true)] ?_;intro J hJ;simp[f0,f9,w4,hl3,hl4,hcl,hd1,hd2])
  refine aO (pF x y _) ?_;rintro r s2 ⟨rfl,rfl⟩
  refine⟨fun _=>by simp,?_⟩
  by_cases hxy:x<y
  rotate_left
  ·clear hJJ
   (refine bE ?_;simp[hxy];refine hJ _ _ (zZ ?_))
   (repeat' (first|(refine qX (zZ ?_))|(refine qC ?_;simp[])))
   refine⟨by trivial,?_⟩;unfold aMu;exact⟨c,by simp[f0],by simp[f1],by simp[f2],by simp[f7],by simp[f8],by trivial,hpm,hdone (.inr hxy)⟩
  have hma:a<m:=by
   rcases Nat.lt_or_ge a m with h|h
   ·exact h
   ·exact absurd hxy (hahm oO)
  have hpm2:=hpm.step m (m-1) oO oO oO oO oO
  (refine bE ?_;simp[hxy];refine hJ _ _ (zZ ?_))
  (repeat' (first|(refine qK (zZ ?_))|(refine qC ?_;simp[])))
  (refine w_s [] [q] [(0,true),(1,true),(2,true),(3,true),(4,true),(5,true),(6,true),(7,true),(8,true),(9,true),(10,true),(11,true),(12,true),(13,true),(14,true),(15,false),(16,true),(17,false)] ?_;intro J hJ;simp[f0,f9,w4,hl3,hl4,hcl,hd1,hd2];(repeat refine ca ?_);refine hJ _ _ (zZ ?_))
  (repeat' (refine w_e [] ?_;intro J hJ;simp only[];simp[f9,w4];refine hJ _ _ (zZ ?_)))
  exact hJJ (m-1) _ _ oO ⟨m-1,sw c m (m-1),oO,oO,rfl,by simp[f0],by simp[f1],by simp[f2],by simp[f7],by simp[f8],sS,hsw',hpm2,hstep hma hxy⟩
 clear f0 f1 f2 f7 f8 hpm1 hs1 hcl1 c1 fr
 rintro fr st2 ⟨c,f0,f1,f2,f7,f8,rfl,hpm,hs⟩
 have hcl:=hpm.len
 have w5:IntKind.i64.wrap ((b:Int)-(k:Int))=(b:Int)-(k:Int):=wrap_i64 _ oO oO
 have w6:=qN j oO
 have w7:=qN k oO
 by_cases hk2:(2:Int)≤(b:Int)-(k:Int)
 rotate_left
 ·(repeat' (first|refine qS ?_|(refine qK (zZ ?_))|(refine qC ?_;simp[f2,f7,w5,hk2,f8,w6])|(refine w_e [] ?_;intro J hJ;simp only[];simp[f2,f7,w5,hk2,f8,w6];refine hJ _ _ (zZ ?_))))
  exact hJ0 (5-(j+1)) _ _ oO ⟨j+1,k,c,oO,rfl,hak,hkb,by simp[f0],by simp[f1],by simp[f2],by simp[f7],sS,rfl,hpm,hs⟩
 (repeat' (first|refine qS ?_|refine qB ?_|(refine qC ?_;simp[f2,f7,w5,hk2,w7])|(refine w_e [] ?_;intro J hJ;simp only[];simp[f2,f7,w5,hk2,w7];refine hJ _ _ (zZ ?_))))
 refine qL (fun n fr st2=>∃(m:Nat) (c:List Int),k<m∧m≤b∧n=b-m∧fr 0=.ms q 0 l.length∧fr 1=i a∧fr 2=i b∧fr 7=i k∧fr 8=i j∧fr 10=i m∧st2=bx st q c∧Pm a b l c∧Srt a k c) (b-(k+1)) ?_ ?_
 ·exact⟨k+1,c,oO,oO,rfl,by simp[f0],by simp[f1],by simp[f2],by simp[f7],by simp[f8],sS,rfl,hpm,hs⟩
 clear f0 f1 f2 f7 f8 hpm hs hcl c fr
 rintro n fr st2 ⟨m,c,hkm,hmb,rfl,f0,f1,f2,f7,f8,f10,rfl,hpm,hs⟩ JJ hJJ
 have hcl:=hpm.len
 by_cases hlt:m<b
 rotate_left
 ·clear hJJ
  (repeat' (first|refine qS ?_|(refine qX (zZ ?_))|(refine qC ?_;simp[f2,f10,hlt,f8,w6])|(refine w_e [] ?_;intro J hJ;simp only[];simp[f2,f10,hlt,f8,w6];refine hJ _ _ (zZ ?_))))
  exact hJ0 (5-(j+1)) _ _ oO ⟨j+1,k,c,oO,rfl,hak,hkb,by simp[f0],by simp[f1],by simp[f2],by simp[f7],sS,rfl,hpm,hs⟩
 have w4:=aR m oO oO
 have w8:=qN m oO
 have hd1:=qG c m oO
 have hd2:=qG c (m-1) oO
 have hl3:m<l.length:=oO
 have hl4:m-1<l.length:=oO
 have hsw:=fun x y=>gF st q c m (m-1) (x:=x) (y:=y) oO oO
 have hpm2:=hpm.step m (m-1) oO oO oO oO oO
 have hs2:Srt a k (sw c m (m-1)):=by
  intro p q h1 h2 h3
  rw[cK _ _ _ _ oO oO,cK _ _ _ _ oO oO,if_neg oO,if_neg oO,if_neg oO,if_neg oO]
  exact hs p q h1 h2 oO
 generalize hx:c.getD m 0=x at *
 generalize hy:c.getD (m-1) 0=y at *
 have hsw':=hsw x y rfl rfl
 (repeat' (first|refine qS ?_|refine qB ?_|(refine qK (zZ ?_))|(refine qC ?_;simp[f2,f10,hlt])|(refine w_e [] ?_;intro J hJ;simp only[];simp[f2,f10,hlt];refine hJ _ _ (zZ ?_))))
 (refine w_s [] [q] [(0,true),(1,true),(2,true),(3,true),(4,true),(5,true),(6,true),(7,true),(8,true),(9,false),(10,true)] ?_;intro J hJ;simp[f0,f10,w4,hl3,hl4,hcl,hd1,hd2])
 refine aO (pF x y _) ?_;rintro r s2 ⟨rfl,rfl⟩
 refine⟨fun _=>by simp,?_⟩
 by_cases hxy:x<y
 rotate_left
 ·clear hJJ
  (refine bE ?_;simp[hxy];refine hJ _ _ (zZ ?_))
  (repeat' (first|(refine qX (zZ ?_))|(refine qC ?_;simp[f8,w6])|(refine w_e [] ?_;intro J hJ;simp only[];simp[f8,w6];refine hJ _ _ (zZ ?_))))
  exact hJ0 (5-(j+1)) _ _ oO ⟨j+1,k,c,oO,rfl,hak,hkb,by simp[f0],by simp[f1],by simp[f2],by simp[f7],sS,rfl,hpm,hs⟩
 (refine bE ?_;simp[hxy];refine hJ _ _ (zZ ?_))
 (repeat' (first|(refine qK (zZ ?_))|(refine qC ?_;simp[])))
 (refine w_s [] [q] [(0,true),(1,true),(2,true),(3,true),(4,true),(5,true),(6,true),(7,true),(8,true),(9,true),(10,true),(11,true),(12,true),(13,true),(14,true),(15,false),(16,true),(17,false)] ?_;intro J hJ;simp[f0,f10,w4,hl3,hl4,hcl,hd1,hd2];(repeat refine ca ?_);refine hJ _ _ (zZ ?_))
 (repeat' (refine w_e [] ?_;intro J hJ;simp only[];simp[f10,w8];refine hJ _ _ (zZ ?_)))
 exact hJJ (b-(m+1)) _ _ oO ⟨m+1,sw c m (m-1),oO,oO,rfl,by simp[f0],by simp[f1],by simp[f2],by simp[f7],by simp[f8],sS,hsw',hpm2,hs2⟩
abbrev ix(st:St)(p:Nat)(s:Int):St:=st.set p (.box 3 1 [i s])
theorem aFx{st:St}{p:Nat}{s:Int}(h:st.H p=.box 3 1 [i s]):st=ix st p s:=
 St.ext' rfl fun x=>by by_cases hx:x=p<;>simp[hx,h]
theorem aFX(st:St)(p:Nat)(s s':Int):ix (ix st p s) p s'=ix st p s':=St.set_set _ _ _ _
theorem aEo(l:List Int)(q p a b:Nat)(s:Int)(st:St)(hl:small l)(ha:a<l.length)(hb:b<l.length)(hpq:q≠p)(hH:st.H q=.box 34 1 (us l))(hp:st.H p=.box 3 1 [i s]):
 aB Tryz.prog 212 [.ms q 0 l.length,i a,i b,.pt p 0] st fun r st'=>∃(x y:Nat) (s':Int),r=.tu [i x,i y]∧st'=ix st p s'∧((x=a∧y=b)∨(x=b∧y=a)):=by
 unfold small at hl
 have hd1:=qG l a ha
 have hd2:=qG l b hb
 generalize l.getD a 0=x at *
 generalize l.getD b 0=y at *
 refine qO aF Tryz.func212 rfl rfl Tryz.ntmps212 (rs:=[.tmp 8,.tmp 9]) rfl sS ?_
 (repeat (refine qS ?_));(refine w_e [] ?_;intro J hJ;simp only[];simp[];refine hJ _ _ (zZ ?_))
 (repeat (refine qS ?_));(refine w_s [] [q] [(0,true),(1,true),(2,true),(3,true),(4,true),(5,true),(6,true),(7,true),(8,false)] ?_;intro J hJ;simp[hH,ha,hb,hd1,hd2])
 refine aO (pF y x _) ?_;rintro r s2 ⟨rfl,rfl⟩
 refine⟨fun _=>by simp[hH],?_⟩
 by_cases hyx:y<x
 ·(refine bE ?_;simp[hyx];refine hJ _ _ (zZ ?_))
  (repeat' (first|refine qS ?_|(refine qR (zZ ?_);simp[hp])|(refine qC ?_;simp[hp])|(refine w_e [] ?_;intro J hJ;simp only[];simp[hp];refine hJ _ _ (zZ ?_))))
  exact⟨b,a,⟨rfl,rfl⟩,⟨_,rfl⟩,.inr ⟨rfl,rfl⟩⟩
 ·(refine bE ?_;simp[hyx];refine hJ _ _ (zZ ?_))
  (repeat' (first|refine qS ?_|(refine qK (zZ ?_))|(refine qR (zZ ?_);simp[])|(refine qC ?_;simp[])|(refine w_e [] ?_;intro J hJ;simp only[];simp[];refine hJ _ _ (zZ ?_))))
  exact⟨a,b,⟨rfl,rfl⟩,⟨s,aFx hp⟩,.inl ⟨rfl,rfl⟩⟩
theorem aJE(l:List Int)(q p a b c:Nat)(s:Int)(st:St)(hl:small l)(ha:a<l.length)(hb:b<l.length)(hc:c<l.length)(hpq:q≠p)(hH:st.H q=.box 34 1 (us l))(hp:st.H p=.box 3 1 [i s]):
 aB Tryz.prog 196 [.ms q 0 l.length,i a,i b,i c,.pt p 0] st fun r st'=>∃(x:Nat) (s':Int),r=i x∧st'=ix st p s'∧(x=a∨x=b∨x=c):=by
 refine qO aF Tryz.func196 rfl rfl Tryz.ntmps196 (rs:=[.tmp 10]) rfl sS ?_
 (repeat' (first|refine qS ?_|(refine w_e [] ?_;intro J hJ;simp only[];simp[];(try refine hJ _ _ (zZ ?_)))))
 refine qF (aEo l q p a b s _ hl ha hb hpq hH hp) ?_;rintro r st' ⟨x,y,s1,rfl,rfl,h1⟩
 (repeat' (first|refine qS ?_|((first|(refine w_e [] ?_;intro J hJ;simp only[])|(refine aE ?_));simp[];(try refine hJ _ _ (zZ ?_)))))
 refine qF (aEo l q p y c s1 _ hl oO hc hpq (by simp[hpq,hH]) sS) ?_;rintro r st' ⟨x2,y2,s2,rfl,rfl,h2⟩
 (repeat' (first|refine qS ?_|((first|(refine w_e [] ?_;intro J hJ;simp only[])|(refine aE ?_));simp[];(try refine hJ _ _ (zZ ?_)))))
 refine qF (aEo l q p x x2 s2 _ hl oO oO hpq (by simp[hpq,hH]) sS) ?_;rintro r st' ⟨x3,y3,s3,rfl,rfl,h3⟩
 (repeat' (first|refine qS ?_|(refine qR (zZ ?_);simp[])|((first|(refine w_e [] ?_;intro J hJ;simp only[])|(refine aE ?_));simp[];refine hJ _ _ (zZ ?_))))
 refine⟨y3,rfl,⟨s3,?_⟩,oO⟩
 rw[aFX,aFX]
theorem iF(l:List Int)(q p a:Nat)(s:Int)(st:St)(hl:small l)(h0:0<a)(ha:a+1<l.length)(hpq:q≠p)(hH:st.H q=.box 34 1 (us l))(hp:st.H p=.box 3 1 [i s]):
 aB Tryz.prog 195 [.ms q 0 l.length,i a,.pt p 0] st fun r st'=>∃(x:Nat) (s':Int),r=i x∧st'=ix st p s'∧a-1≤x∧x≤a+1:=by
 have hl':=hl
 unfold small at hl'
 have w1:=qN a oO
 have w2:=aR a oO oO
 refine qO aF Tryz.func195 rfl rfl Tryz.ntmps195 (rs:=[.tmp 6]) rfl sS ?_
 (repeat' (first|refine qS ?_|(refine w_e [] ?_;intro J hJ;simp only[];simp[w1,w2];(try refine hJ _ _ (zZ ?_)))))
 refine qF (aJE l q p (a-1) a (a+1) s _ hl oO oO oO hpq hH hp) ?_;rintro r st' ⟨x,s1,rfl,rfl,h1⟩
 (repeat' (first|(refine qR (zZ ?_);simp[])|(refine aE ?_;simp[];refine hJ _ _ (zZ ?_))))
 exact⟨x,rfl,⟨s1,rfl⟩,oO⟩
def aNJ(q n a b:Nat)(st:St)(fr:Frm)(st2:St):Prop:=∃(j1 j2 j3:Nat) (s:Int),fr 0=.ms q 0 n∧fr 9=.pt st.next 0∧fr 10=i j1∧fr 11=i j2∧fr 12=i j3∧a≤j1∧j1<b∧a≤j2∧j2<b∧a≤j3∧j3<b∧st2=ix (st.new (.box 3 1 [i 0])) st.next s
set_option maxHeartbeats 1000000 in
theorem aDp(l:List Int)(q a b:Nat)(st:St)(hl:small l)(hab:a+8≤b)(hb:b≤l.length)(hqn:q<st.next)(hH:st.H q=.box 34 1 (us l)):
 aB Tryz.prog 169 [.ms q 0 l.length,i a,i b] st fun r st'=>∃(x:Nat) (h:Int),r=.tu [i x,i h]∧a≤x∧x<b∧aA st st':=by
 have hl':=hl
 unfold small at hl'
 obtain⟨n,hn⟩:∃ n:Nat,n=b-a:=⟨_,rfl⟩
 obtain⟨n4,hn4⟩:∃ m:Nat,m=n / 4:=⟨_,rfl⟩
 obtain⟨k1,hk1⟩:∃ m:Nat,m=a+n4:=⟨_,rfl⟩
 obtain⟨k2,hk2⟩:∃ m:Nat,m=a+n4*2:=⟨_,rfl⟩
 obtain⟨k3,hk3⟩:∃ m:Nat,m=a+n4*3:=⟨_,rfl⟩
 have w1:IntKind.i64.wrap ((b:Int)-(a:Int))=(n:Int):=by rw[wrap_i64 _ oO oO];omega
 have w2:IntKind.i64.wrap ((n:Int) / 4)=(n4:Int):=by
  rw[show(n:Int) / 4=((n / 4:Nat):Int) from rfl,← hn4]
  exact wrap_i64 _ oO oO
 have w3:IntKind.i64.wrap (n4:Int)=(n4:Int):=wrap_i64 _ oO oO
 have w4:IntKind.i64.wrap ((n4:Int)*2)=((n4*2:Nat):Int):=by rw[wrap_i64 _ oO oO];omega
 have w5:IntKind.i64.wrap ((n4:Int)*3)=((n4*3:Nat):Int):=by rw[wrap_i64 _ oO oO];omega
 have w6:IntKind.i64.wrap ((a:Int)+(n4:Int))=(k1:Int):=by rw[wrap_i64 _ oO oO];omega
 have w7:IntKind.i64.wrap ((a:Int)+((n4*2:Nat):Int))=(k2:Int):=by rw[wrap_i64 _ oO oO];omega
 have w8:IntKind.i64.wrap ((a:Int)+((n4*3:Nat):Int))=(k3:Int):=by rw[wrap_i64 _ oO oO];omega
 have h8:(8:Int)≤(n:Int):=oO
 have hqn':q≠st.next:=oO
 generalize ((n4*2:Nat):Int)=e2 at *
 generalize ((n4*3:Nat):Int)=e3 at *
 refine qO aF Tryz.func169 rfl rfl Tryz.ntmps169 (rs:=[.tmp 6,.tmp 7]) rfl sS ?_
 (repeat' (first|refine qS ?_|(refine w_e [] ?_;intro J hJ;simp only[];simp[w1,w2,w3,w4,w5,w6,w7,w8,h8];refine hJ _ _ (zZ ?_))))
 refine qC ?_;simp[h8]
 refine qS ?_
 refine bU (aNJ q l.length a b st) ?_ ?_
 ·by_cases h50:(50:Int)≤(n:Int)
  ·(repeat' (first|refine qS ?_|(refine qC ?_;simp[h50])|(refine w_e [] ?_;intro J hJ;simp only[];simp[h50];(try refine hJ _ _ (zZ ?_)))))
   refine qF (iF l q st.next k1 0 _ hl oO oO hqn' (by simp[hqn',hH]) sS) ?_;rintro r st' ⟨x1,s1,rfl,rfl,h1⟩
   (repeat' (first|refine qS ?_|((first|(refine w_e [] ?_;intro J hJ;simp only[])|(refine aE ?_));simp[];(try refine hJ _ _ (zZ ?_)))))
   refine qF (iF l q st.next k2 s1 _ hl oO oO hqn' (by simp[hqn',hH]) sS) ?_;rintro r st' ⟨x2,s2,rfl,rfl,h2⟩
   (repeat' ((first|(refine w_e [] ?_;intro J hJ;simp only[])|(refine aE ?_));simp[];(try refine hJ _ _ (zZ ?_))))
   refine qF (iF l q st.next k3 s2 _ hl oO oO hqn' (by simp[hqn',hH]) sS) ?_;rintro r st' ⟨x3,s3,rfl,rfl,h3⟩
   (repeat' (refine aE ?_;simp[];refine hJ _ _ (zZ ?_)))
   refine⟨by trivial,?_⟩;unfold aNJ;exact⟨x1,x2,x3,s3,sS,sS,sS,sS,sS,oO,oO,oO,oO,oO,oO,by rw[aFX,aFX]⟩
  ·(repeat' (first|refine qS ?_|(refine qK (zZ ?_))|(refine qC ?_;simp[h50])|(refine w_e [] ?_;intro J hJ;simp only[];simp[h50];refine hJ _ _ (zZ ?_))))
   refine⟨by trivial,?_⟩;unfold aNJ;exact⟨k1,k2,k3,0,sS,sS,sS,sS,sS,oO,oO,oO,oO,oO,oO,aFx sS⟩
 rintro fr st2 ⟨j1,j2,j3,s,f0,f9,f10,f11,f12,h1,h2,h3,h4,h5,h6,rfl⟩
 (repeat' (refine w_e [] ?_;intro J hJ;simp only[];simp[f0,f9,f10,f11,f12]))
 refine qF (aJE l q st.next j1 j2 j3 s _ hl oO oO oO hqn' (by simp[hqn',hH]) sS) ?_;rintro r st' ⟨x,s1,rfl,rfl,hx⟩
 have hkp:aA st (ix (ix (st.new (.box 3 1 [i 0])) st.next s) st.next s1):=((aA.new _ _).set (Nat.le_refl _) _).set (Nat.le_refl _) _
 have hax:a≤x∧x<b:=oO
 (repeat' (first|refine qS ?_|refine qB ?_|(refine qR (zZ ?_);simp[f9])|(refine qC ?_;simp[f9];(try with_reducible refine⟨?_,?_⟩)<;>(try with_reducible intro hc))|((first|(refine w_e [] ?_;intro J hJ;simp only[])|(refine aE ?_));simp[f9];refine hJ _ _ (zZ ?_))))
 all_goals exact⟨x,rfl,hax.1,hax.2,hkp⟩
abbrev uw(n:Int):LV:=.atom (.int .u64 n)
def eS(m:Nat):Nat:=if m=0 then 0 else Nat.log2 m+1
def gU(n:Nat):Nat:=if 256≤n then 8+eS (n / 256)else eS n
theorem wrap_u64(n:Int)(h1:0≤n)(h2:n<18446744073709551616):IntKind.u64.wrap n=n:=by
 simp[IntKind.wrap,IntKind.signed,IntKind.bits];omega
theorem wrap_u8(n:Int)(h1:0≤n)(h2:n<256):IntKind.u8.wrap n=n:=by
 simp[IntKind.wrap,IntKind.signed,IntKind.bits];omega
abbrev wA:ByteArray:={ data:=((List.append [0,1,2,2,3,3,3,3,4,4,4,4,4,4,4,4,5,5,5,5,5,5,5,5,5,5,5,5,5,5,5,5,6,6,6,6,6,6,6,6,6,6,6,6,6,6,6,6,6,6,6,6,6,6,6,6,6,6,6,6,6,6,6,6] [7,7,7,7,7,7,7,7,7,7,7,7,7,7,7,7,7,7,7,7,7,7,7,7,7,7,7,7,7,7,7,7,7,7,7,7,7,7,7,7,7,7,7,7,7,7,7,7,7,7,7,7,7,7,7,7,7,7,7,7,7,7,7,7]).append (List.append [8,8,8,8,8,8,8,8,8,8,8,8,8,8,8,8,8,8,8,8,8,8,8,8,8,8,8,8,8,8,8,8,8,8,8,8,8,8,8,8,8,8,8,8,8,8,8,8,8,8,8,8,8,8,8,8,8,8,8,8,8,8,8,8] [8,8,8,8,8,8,8,8,8,8,8,8,8,8,8,8,8,8,8,8,8,8,8,8,8,8,8,8,8,8,8,8,8,8,8,8,8,8,8,8,8,8,8,8,8,8,8,8,8,8,8,8,8,8,8,8,8,8,8,8,8,8,8,8])).toArray }
theorem aHf:∀ m:Fin 256,((wA[m.val]?).isSome=true∧((wA[m.val]?).getD 0).toNat=eS m.val):=by decide +kernel
theorem nE:∀ m:Fin 256,eS m.val≤8∧(0<m.val→m.val<2 ^ eS m.val∧2 ^ eS m.val≤2*m.val):=by decide +kernel
theorem pU(n:Nat)(hn:n<65536):gU n≤16∧(0<n→n<2 ^ gU n∧2 ^ gU n≤2*n):=by
 unfold gU
 by_cases h:256≤n
 ·rw[if_pos h]
  have h1:=nE ⟨n / 256,oO⟩
  simp only at h1
  obtain⟨h2,h3⟩:=h1.2 oO
  refine⟨oO,fun _=>?_⟩
  rw[Nat.pow_add]
  generalize 2 ^ eS (n / 256)=e at *
  omega
 ·rw[if_neg h]
  have h1:=nE ⟨n,oO⟩
  simp only at h1
  exact⟨oO,h1.2⟩
theorem aPT(n:Nat)(st:St)(hn:n<65536):aB Tryz.prog 139 [uw n] st fun r st'=>r=i (gU n)∧st'=st:=by
 refine qO aF Tryz.func139 rfl rfl Tryz.ntmps139 (rs:=[.tmp 2]) rfl sS ?_
 have h1:¬(4294967296:Int)≤(n:Int):=oO
 have h2:¬(65536:Int)≤(n:Int):=oO
 have hs:∀ m,m<256→(wA[m]?).isSome=true∧((wA[m]?).getD 0).toNat=eS m:=fun m h=>aHf ⟨m,h⟩
 generalize hq:({ data:=((List.append [0,1,2,2,3,3,3,3,4,4,4,4,4,4,4,4,5,5,5,5,5,5,5,5,5,5,5,5,5,5,5,5,6,6,6,6,6,6,6,6,6,6,6,6,6,6,6,6,6,6,6,6,6,6,6,6,6,6,6,6,6,6,6,6] [7,7,7,7,7,7,7,7,7,7,7,7,7,7,7,7,7,7,7,7,7,7,7,7,7,7,7,7,7,7,7,7,7,7,7,7,7,7,7,7,7,7,7,7,7,7,7,7,7,7,7,7,7,7,7,7,7,7,7,7,7,7,7,7]).append (List.append [8,8,8,8,8,8,8,8,8,8,8,8,8,8,8,8,8,8,8,8,8,8,8,8,8,8,8,8,8,8,8,8,8,8,8,8,8,8,8,8,8,8,8,8,8,8,8,8,8,8,8,8,8,8,8,8,8,8,8,8,8,8,8,8] [8,8,8,8,8,8,8,8,8,8,8,8,8,8,8,8,8,8,8,8,8,8,8,8,8,8,8,8,8,8,8,8,8,8,8,8,8,8,8,8,8,8,8,8,8,8,8,8,8,8,8,8,8,8,8,8,8,8,8,8,8,8,8,8])).toArray }:ByteArray)=s
 rw[show wA=s from hq]at hs
 clear hq
 by_cases h3:(256:Int)≤(n:Int)
 ·obtain⟨m,hm⟩:∃ m,m=n / 256:=⟨_,rfl⟩
  have w1:(n:Int).fdiv (2 ^ min 8 IntKind.u64.bits)=(m:Int):=by
   show(n:Int).fdiv 256=(m:Int)
   rw[Int.fdiv_eq_ediv_of_nonneg _ oO];omega
  have w2:=wrap_u8 m oO oO
  have hb:gU n=8+eS m:=by unfold gU;rw[if_pos oO,hm]
  have h4:eS m≤8:=(nE ⟨m,oO⟩).1
  have hm2:=hs m oO
  have hz:m<s.size:=by simpa using hm2.1
  have hv:=hm2.2
  rw[hb]
  generalize eS m=e at *
  have w3:IntKind.i64.wrap (8+(e:Int))=((8+e:Nat):Int):=by rw[wrap_i64 _ oO oO];omega
  have w4:IntKind.i64.wrap (e:Int)=(e:Int):=by rw[wrap_i64 _ oO oO]
  have w5:IntKind.i64.wrap (8:Int)=8:=rfl
  simp[hz]at hv
  (repeat' (first|refine qS ?_|(refine qK (zZ ?_))|(refine qR (zZ ?_);simp[h1,h2,h3,aIx,w1,w2,hz,hv,w3,w4,w5])|(refine qC ?_;simp[h1,h2,h3,aIx,w1,w2,hz,hv,w3,w4,w5])|(refine w_e [] ?_;intro J hJ;simp only[];simp[h1,h2,h3,aIx,w1,w2,hz,hv,w3,w4,w5];refine hJ _ _ (zZ ?_))))
 ·have w2:=wrap_u8 n oO oO
  have hb:gU n=eS n:=by unfold gU;rw[if_neg oO]
  have h4:eS n≤8:=(nE ⟨n,oO⟩).1
  have hm2:=hs n oO
  have hz:n<s.size:=by simpa using hm2.1
  have hv:=hm2.2
  rw[hb]
  generalize eS n=e at *
  have w4:IntKind.i64.wrap (e:Int)=(e:Int):=by rw[wrap_i64 _ oO oO]
  simp[hz]at hv
  (repeat' (first|refine qS ?_|(refine qK (zZ ?_))|(refine qR (zZ ?_);simp[h1,h2,h3,w2,hz,hv,w4])|(refine qC ?_;simp[h1,h2,h3,w2,hz,hv,w4])|(refine w_e [] ?_;intro J hJ;simp only[];simp[h1,h2,h3,w2,hz,hv,w4];refine hJ _ _ (zZ ?_))))
theorem Len(n:Nat)(st:St)(hn:n<65536):aB Tryz.prog 96 [uw n] st fun r st'=>r=i (gU n)∧st'=st:=by
 refine qO aF Tryz.func96 rfl rfl Tryz.ntmps96 (rs:=[.tmp 2]) rfl sS ?_
 (repeat' (first|refine qS ?_|(refine qK (zZ ?_))|(refine qC ?_;simp[])|(refine w_e [] ?_;intro J hJ;simp only[];simp[];(try refine hJ _ _ (zZ ?_)))))
 refine qF (aPT n _ hn) ?_;rintro r st' ⟨rfl,rfl⟩
 (repeat' (first|(refine qR (zZ ?_);simp[])|(refine aE ?_;simp[];refine hJ _ _ (zZ ?_))))
theorem nextPowerOfTwo(n:Nat)(st:St)(hn:n<65536):aB Tryz.prog 183 [i n] st fun r st'=>r=uw ((2 ^ gU n:Nat):Int)∧st'=st:=by
 have h1:=(pU n hn).1
 have w1:IntKind.u64.wrap (n:Int)=(n:Int):=wrap_u64 _ oO oO
 have w2:aAM .u64 1 (gU n)=((2 ^ gU n:Nat):Int):=by
  unfold aAM
  have h2:(2:Nat) ^ gU n≤2 ^ 16:=Nat.pow_le_pow_right oO h1
  have h3:min ((gU n:Int).toNat) IntKind.u64.bits=gU n:=by simp[IntKind.bits];omega
  rw[h3,Int.one_mul]
  rw[show((2:Int) ^ gU n)=((2 ^ gU n:Nat):Int) by simp]
  generalize (2:Nat) ^ gU n=z at *
  exact wrap_u64 _ oO oO
 refine qO aF Tryz.func183 rfl rfl Tryz.ntmps183 (rs:=[.tmp 2]) rfl sS ?_
 (repeat' (first|refine qS ?_|(refine w_e [] ?_;intro J hJ;simp only[];simp[w1];(try refine hJ _ _ (zZ ?_)))))
 refine qF (Len n _ hn) ?_;rintro r st' ⟨rfl,rfl⟩
 generalize ((2 ^ gU n:Nat):Int)=e2 at *
 (repeat' (first|(refine qR (zZ ?_);simp[w2])|(refine aE ?_;simp[w2];refine hJ _ _ (zZ ?_))))
abbrev xx(st:St)(p:Nat)(s:Int):St:=st.set p (.box 199 1 [uw s])
theorem aPI(p:Nat)(s:Int)(st:St)(hp:st.H p=.box 199 1 [uw s]):aB Tryz.prog 184 [.pt p 0] st fun r st'=>∃ s',r=uw s'∧st'=xx st p s':=by
 refine qO aF Tryz.func184 rfl rfl Tryz.ntmps184 (rs:=[.tmp 2]) rfl sS ?_
 (repeat (refine qS ?_));(refine w_e [] ?_;intro J hJ;simp only[];simp[];refine hJ _ _ (zZ ?_))
 (repeat (refine qS ?_));(refine w_s [] [p] [(0,true),(1,true),(2,true),(3,true),(4,true),(5,true),(6,true),(7,true),(8,true),(9,false)] ?_;intro J hJ;simp[hp];refine hJ _ _ (zZ ?_))
 generalize aEp _ _ _=s1
 (repeat (refine qS ?_));(refine w_s [] [p] [(0,true),(1,true),(2,true),(3,true),(4,true),(5,true),(6,true),(7,true),(8,true),(9,false)] ?_;intro J hJ;simp[hp];refine hJ _ _ (zZ ?_))
 generalize aEp _ _ _=s2
 (repeat (refine qS ?_));(refine w_s [] [p] [(0,true),(1,true),(2,true),(3,true),(4,true),(5,true),(6,true),(7,true),(8,true),(9,false)] ?_;intro J hJ;simp[hp];refine hJ _ _ (zZ ?_))
 generalize aEp _ _ _=s3
 (repeat' (first|refine qS ?_|(refine qR (zZ ?_);simp[])|(refine w_e [] ?_;intro J hJ;simp only[];simp[];refine hJ _ _ (zZ ?_))))
 rw[St.set_set,St.set_set]
theorem aLo(s:Int)(m:Nat)(h0:0<m)(hm:m≤131072):∃ o:Nat,o<m∧rN .u64 s (((m-1:Nat)):Int)=(o:Int):=by
 unfold rN
 generalize hx:BitVec.ofInt IntKind.u64.bits s=x
 have h1:(BitVec.ofInt IntKind.u64.bits ((m-1:Nat):Int)).toNat=m-1:=by
  rw[BitVec.ofInt_natCast,BitVec.toNat_ofNat]
  show(m-1) % 2 ^ 64=m-1
  exact Nat.mod_eq_of_lt oO
 refine⟨(x &&& BitVec.ofInt IntKind.u64.bits ((m-1:Nat):Int)).toNat,?_,?_⟩
 ·have h2:(x &&& BitVec.ofInt IntKind.u64.bits ((m-1:Nat):Int)).toNat≤(BitVec.ofInt IntKind.u64.bits ((m-1:Nat):Int)).toNat:=by
   rw[BitVec.toNat_and];exact Nat.and_le_right
  omega
 ·have h2:(x &&& BitVec.ofInt IntKind.u64.bits ((m-1:Nat):Int)).toNat≤(BitVec.ofInt IntKind.u64.bits ((m-1:Nat):Int)).toNat:=by
   rw[BitVec.toNat_and];exact Nat.and_le_right
  exact wrap_u64 _ oO oO
def bN(q:Nat)(st st':St):Prop:=st.next≤st'.next∧∀ l,l≠q→l<st.next→st'.H l=st.H l
theorem bN.refl(q:Nat)(st:St):bN q st st:=⟨Nat.le_refl _,fun _ _ _=>rfl⟩
theorem bN.trans{q:Nat}{a b c:St}(h:bN q a b)(k:bN q b c):bN q a c:=⟨Nat.le_trans h.1 k.1,fun l hl hn=>(k.2 l hl (Nat.lt_of_lt_of_le hn h.1)).trans (h.2 l hl hn)⟩
theorem bN.keeps{q:Nat}{a b c:St}(h:bN q a b)(k:aA b c):bN q a c:=⟨Nat.le_trans h.1 k.next,fun l hl hn=>(k.H l (Nat.lt_of_lt_of_le hn h.1)).trans (h.2 l hl hn)⟩
theorem bN.set{q:Nat}{a b:St}(h:bN q a b)(o:cA):bN q a (b.set q o):=⟨h.1,fun l hl hn=>by rw[bH,if_neg hl];exact h.2 l hl hn⟩
theorem bN.set'{q p:Nat}{a b:St}(h:bN q a b)(hp:a.next≤p)(o:cA):bN q a (b.set p o):=⟨h.1,fun l hl hn=>by rw[bH,if_neg oO];exact h.2 l hl hn⟩
def aLG(q p a b n m k:Nat)(l:List Int)(st:St)(fr:Frm)(st2:St):Prop:=fr 0=.ms q 0 l.length∧fr 1=i a∧fr 6=i n∧fr 7=.pt p 0∧fr 8=uw m∧fr 9=i k∧p<st2.next∧bN q st st2∧(∃ s,st2.H p=.box 199 1 [uw s])∧∃ c,st2.H q=.box 34 1 (us c)∧Pm a b l c
def aRL(q p a b n m k:Nat)(l:List Int)(st:St)(fr:Frm)(st2:St):Prop:=aLG q p a b n m k l st fr st2∧∃ o:Nat,o<n∧fr 10=i o
set_option maxHeartbeats 1000000 in
theorem yP(l:List Int)(q a b:Nat)(st:St)(hl:l.length<65536)(hab:a+8≤b)(hb:b≤l.length)(hqn:q<st.next)(hH:st.H q=.box 34 1 (us l)):
 aB Tryz.prog 168 [.ms q 0 l.length,i a,i b] st fun r st'=>∃ c,st'.H q=.box 34 1 (us c)∧Pm a b l c∧bN q st st':=by
 obtain⟨n,hn⟩:∃ n:Nat,n=b-a:=⟨_,rfl⟩
 obtain⟨n4,hn4⟩:∃ m:Nat,m=n / 4:=⟨_,rfl⟩
 obtain⟨k0,hk0⟩:∃ m:Nat,m=a+n4*2:=⟨_,rfl⟩
 have w1:IntKind.i64.wrap ((b:Int)-(a:Int))=(n:Int):=by rw[wrap_i64 _ oO oO];omega
 have w2:IntKind.i64.wrap ((n:Int) / 4)=(n4:Int):=by
  rw[show(n:Int) / 4=((n / 4:Nat):Int) from rfl,← hn4]
  exact wrap_i64 _ oO oO
 have w4:IntKind.i64.wrap ((n4:Int)*2)=((n4*2:Nat):Int):=by rw[wrap_i64 _ oO oO];omega
 have w7:IntKind.i64.wrap ((a:Int)+((n4*2:Nat):Int))=(k0:Int):=by rw[wrap_i64 _ oO oO];omega
 have w8:=aR k0 oO oO
 obtain⟨k1,hk1⟩:∃ m:Nat,m=k0+1:=⟨_,rfl⟩
 have w9:IntKind.i64.wrap ((k0:Int)+1)=(k1:Int):=by rw[qN k0 oO,hk1]
 have w10:IntKind.u64.wrap (n:Int)=(n:Int):=wrap_u64 _ oO oO
 have h8:(8:Int)≤(n:Int):=oO
 have hbl:=(pU n oO).2 oO
 obtain⟨m,hm⟩:∃ m:Nat,m=2 ^ gU n:=⟨_,rfl⟩
 rw[← hm]at hbl
 have w11:IntKind.u64.wrap ((m:Int)-1)=((m-1:Nat):Int):=by rw[wrap_u64 _ oO oO];omega
 generalize ((n4*2:Nat):Int)=e2 at *
 refine qO aF Tryz.func168 rfl rfl Tryz.ntmps168 (rs:=[]) rfl sS ?_
 (repeat' (first|refine qS ?_|(refine w_e [] ?_;intro J hJ;simp only[];simp[w1];refine hJ _ _ (zZ ?_))))
 refine qC ?_;simp[h8]
 (repeat' (first|refine qS ?_|(refine w_e [] ?_;intro J hJ;simp only[];simp[w10,w1];(try refine hJ _ _ (zZ ?_)))))
 refine qF (nextPowerOfTwo n _ oO) ?_;rintro r st' ⟨rfl,rfl⟩
 rw[← hm]
 (repeat' (first|refine qS ?_|refine qB ?_|((first|(refine w_e [] ?_;intro J hJ;simp only[])|(refine aE ?_));simp[w2,w4,w7,w8];refine hJ _ _ (zZ ?_))))
 refine qL (fun z fr st2=>∃ k:Nat,k0≤k+1∧k≤k0+2∧z=k0+2-k∧aLG q st.next a b n m k l st fr st2) 3 ?_ ?_
 ·refine⟨k0-1,oO,oO,oO,?_⟩
  unfold aLG
  have hne:¬q=st.next:=oO
  refine⟨sS,sS,sS,sS,sS,sS,sS,?_,⟨n,sS⟩,l,by simp[hne,hH],.refl⟩
  exact((bN.refl q st).keeps (aA.new _ _)).set' (Nat.le_refl _) _
 rintro z fr st2 ⟨k,hkl,hku,rfl,f0,f1,f6,f7,f8,f9,hpn,hof,⟨s,hs⟩,c,hcq,hpm⟩ JJ hJJ
 have hcl:=hpm.len
 by_cases hlt:(k:Int)≤(k1:Int)
 rotate_left
 ·clear hJJ
  (repeat' (first|refine qS ?_|(refine qX (zZ ?_))|(refine qC ?_;simp[f1,f6,f9,w2,w4,w7,w9,hlt])|(refine w_e [] ?_;intro J hJ;simp only[];simp[f1,f6,f9,w2,w4,w7,w9,hlt];refine hJ _ _ (zZ ?_))))
  exact⟨trivial,c,hcq,hpm,hof⟩
 (repeat (refine qS ?_));(refine w_e [] ?_;intro J hJ;simp only[];simp[f1,f6,f9,w2,w4,w7,w9,hlt];refine hJ _ _ (zZ ?_))
 refine qC ?_;simp[hlt]
 refine qK (zZ ?_)
 refine qS ?_
 refine qB ?_
 refine qS ?_
 (refine w_e [] ?_;intro J hJ;simp only[];simp[f7])
 refine qF (aPI st.next s _ hs) ?_;rintro r st' ⟨s1,rfl,rfl⟩
 obtain⟨o,ho,hgo⟩:=aLo s1 m oO oO
 have w12:IntKind.i64.wrap (o:Int)=(o:Int):=wrap_i64 _ oO oO
 (refine aE ?_;simp[f8,w11,hgo,w12];refine hJ _ _ (zZ ?_))
 refine qS ?_
 refine bU (aRL q st.next a b n m k l st) ?_ ?_
 ·have hqne:¬q=st.next:=oO
  have hI:∀ fr2:Frm,fr2 0=fr 0→fr2 1=fr 1→fr2 6=fr 6→fr2 7=fr 7→fr2 8=fr 8→fr2 9=fr 9→aLG q st.next a b n m k l st fr2 (xx st2 st.next s1):=by
   intro fr2 g0 g1 g6 g7 g8 g9
   exact⟨by rw[g0,f0],by rw[g1,f1],by rw[g6,f6],by rw[g7,f7],by rw[g8,f8],by rw[g9,f9],by simpa using hpn,hof.set' (Nat.le_refl _) _,⟨s1,sS⟩,c,by simp[hqne,hcq],hpm⟩
  by_cases hge:(n:Int)≤(o:Int)
  ·have w13:IntKind.i64.wrap ((o:Int)-(n:Int))=((o-n:Nat):Int):=by rw[wrap_i64 _ oO oO];omega
   (repeat' (first|refine qS ?_|(refine qC ?_;simp[f6,hge,w13])|(refine w_e [] ?_;intro J hJ;simp only[];simp[f6,hge,w13];refine hJ _ _ (zZ ?_))))
   refine⟨by trivial,?_⟩
   exact⟨hI _ sS sS sS sS sS sS,o-n,oO,sS⟩
  ·(repeat' (first|refine qS ?_|(refine qK (zZ ?_))|(refine qC ?_;simp[f6,hge])|(refine w_e [] ?_;intro J hJ;simp only[];simp[f6,hge];refine hJ _ _ (zZ ?_))))
   refine⟨by trivial,?_⟩
   exact⟨hI _ sS sS sS sS sS sS,o,oO,sS⟩
 clear f0 f1 f6 f7 f8 f9 hpn hof hs hcq hpm hcl hgo w12 ho o s s1 c st2 fr
 rintro fr st2 ⟨⟨f0,f1,f6,f7,f8,f9,hpn,hof,⟨s,hs⟩,c,hcq,hpm⟩,o,ho,f10⟩
 have hcl:=hpm.len
 obtain⟨x,hx⟩:∃ x:Nat,x=a+o:=⟨_,rfl⟩
 have w12:IntKind.i64.wrap ((a:Int)+(o:Int))=(x:Int):=by rw[wrap_i64 _ oO oO];omega
 have w13:=qN k oO
 have hd1:=qG c k oO
 have hd2:=qG c x oO
 have hl3:k<l.length:=oO
 have hl4:x<l.length:=oO
 have hsw:=fun v y=>aFl st2 q c k x (x:=v) (y:=y) oO oO
 have hpm2:=hpm.step k x oO oO oO oO oO
 generalize hv:c.getD k 0=v at *
 generalize hy:c.getD x 0=y at *
 have hsw':=hsw v y rfl rfl
 (refine w_s [] [q] [(0,true),(1,true),(2,true),(3,true),(4,true),(5,true),(6,true),(7,true),(8,true),(9,true),(10,true),(11,true),(12,true),(13,true),(14,true),(15,true),(16,true),(17,false),(18,true),(19,false)] ?_;intro J hJ;simp[f0,f1,f9,f10,w12,hl3,hl4,hcl,hcq,hd1,hd2];(repeat refine ca ?_);refine hJ _ _ (zZ ?_))
 (repeat' (refine w_e [] ?_;intro J hJ;simp only[];simp[f9,w13];refine hJ _ _ (zZ ?_)))
 have hqne:¬st.next=q:=oO
 rw[hsw']
 exact hJJ (k0+2-(k+1)) _ _ oO ⟨k+1,oO,oO,rfl,by simp[f0],by simp[f1],by simp[f6],by simp[f7],by simp[f8],sS,by simpa using hpn,hof.set _,⟨s,by simp[hqne,hs]⟩,_,sS,hpm2⟩
end Go.Proofs.YtempldclppogmaaGreatDoor.Aw
