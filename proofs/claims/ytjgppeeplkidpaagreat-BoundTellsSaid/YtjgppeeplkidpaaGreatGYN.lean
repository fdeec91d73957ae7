/-
  Walks over letters of the functions that the law reaches; written small by a program of mine.
-/
import Derived.Test.YtjgppeeplkidpaaGreatGYM
import Derived.Test.YtjgppeeplkidpaaGreatGC8
import Derived.Test.YtjgppeeplkidpaaGreatGB0
set_option linter.unusedVariables false
set_option linter.unusedSectionVars false
namespace Go.AM
attribute [local instance] fnMaps
open Go Go.Proofs
set_option maxRecDepth 100000
set_option maxHeartbeats 4000000
set_option linter.unusedSimpArgs false
section
variable{H0:Heap}{m rt ra:Nat}{x1 x2 y1 y2:Value}{a b:Gr}
end
theorem Ej(H:Heap)(l:List Int):dD (dd .i64) 1 H (l.map db) l:=by
 refine⟨by rw[wO,waY],fun i x hx=>⟨[.int .i64 x],?_,rfl⟩⟩
 have hi:=(wD.1 hx).1
 rw[dB,wF (by rw[wO];omega),waY,←List.map_drop,wX hi]
 rw[wj hi,wi]at hx
 rw[hx]
 rfl
def bl(x:Nat):Nat:=((List.range 9).filter fun k=>decide (2^k≤x)).length
theorem IL{x:Nat}(h:x<256):x<2^bl x∧(0<bl x→2^(bl x-1)≤x)∧bl x≤8:=by
 have:(List.range 256).all (fun x=>decide (x<2^bl x)&&decide (0<bl x→2^(bl x-1)≤x)&&decide (bl x≤8))=true:=kq
 have:=waC.1 this x (wcc.2 h)
 simp only[wA,wT]at this
 exact⟨this.1.1,this.1.2,this.2⟩
def PD(s:ByteArray):Bool:=Nat.beq s.size 256&&(List.range 256).all fun x=>s.data.toList[x]? ==some (UInt8.ofNat (bl x))
theorem zb5(s:ByteArray)(k:IntKind)(i:Int):indexV E 9 (.string s) (.int k i)=(at? i s.size).bind fun n=>(s.data.toList[n]?).bind fun b=>some (.int .u8 b.toNat):=kq
theorem PE{s:ByteArray}(x:Nat)(hx:x<256)(hs:PD s=true):indexV E 9 (.string s) (.int .u8 x)=some (.int .u8 (bl x:Nat)):=by
 unfold PD at hs
 rw[wA]at hs
 have h1:=wbw hs.1
 have h2:=waC.1 hs.2 x (wcc.2 hx)
 have h3:=LawfulBEq.eq_of_beq h2
 have h4:=IL hx
 rw[zb5,h1,bI hx,wo,h3,wo]
 congr 2
 rw[UInt8.toNat_ofNat']
 have:bl x%2^8=bl x:=Nat.mod_eq_of_lt (by omega)
 rw[this]
theorem PG(z:Int):∃ y:Nat,y<18446744073709551616∧fF .u64 z=some (.int .u64 (y:Int)):=by
 refine⟨(z%18446744073709551616).toNat,by omega,?_⟩
 rw[oL]
 have e:IntKind.u64.wrap z=z%18446744073709551616:=by simp[IntKind.wrap,IntKind.bits,IntKind.signed]
 rw[e]
 congr 2
 omega
theorem IM(a b:Int):∃ y:Nat,y<18446744073709551616∧intOp .xor .u64 a b=some (.int .u64 (y:Int)):=PG _
theorem PI(a n:Int)(hn:0≤n):∃ y:Nat,y<18446744073709551616∧shiftOp .shl .u64 a n=some (.int .u64 (y:Int)):=by
 obtain⟨y,h,e⟩:=PG (a*2^(min n.toNat (IntKind.u64).bits))
 exact⟨y,h,by rw[shift_shl _ _ _ hn,←e,oL]⟩
theorem zb6(a:Nat)(ha:a<18446744073709551616)(n:Int)(hn:0≤n):∃ y:Nat,y<18446744073709551616∧shiftOp .shr .u64 (a:Int) n=some (.int .u64 (y:Int)):=by
 rw[shift_shr _ _ _ hn]
 generalize min n.toNat (IntKind.u64).bits=m
 refine⟨a/2^m,Nat.lt_of_le_of_lt (Nat.div_le_self _ _) ha,?_⟩
 congr 2
 rw[wcw _ (Int.pow_nonneg (by decide))]
 norm_cast
theorem PJ(k:Nat):2^(8+k)=256*2^k:=by rw[Nat.pow_add]
theorem zb7(H:Heap)(x:Nat)(hx:x<65536):af E (aC 156) [.int .u64 x] H fun r H'=>(∃L:Nat,r= .int .i64 L∧x<2^L∧(0<L→2^(L-1)≤x)∧L≤16)∧H'=H:=by
 refine aQ Tryz.f156 ?_
 simp only[Tryz.f156]
 have h1:decide ((4294967296:Int)≤(x:Int))=false:=wx (by omega)
 have h2:decide ((65536:Int)≤(x:Int))=false:=wx (by omega)
 by_cases h:x<256
 ·have h3:decide ((256:Int)≤(x:Int))=false:=wx (by omega)
  have hw:IntKind.u8.wrap (x:Int)=x:=uo .u8 _ (by simp[IntKind.min,IntKind.signed]<;>omega) (by simp[IntKind.max,IntKind.signed,IntKind.bits]<;>omega)
  have hb:=IL h
  simp(disch:=omega)only[↓aa,ab,simprocAttr,sa, *]
  rw[PE x h]
  ·simp(disch:=omega)only[↓aa,ab,simprocAttr,sa, *]
   exact⟨bl x,by rw[Int.zero_add],hb.1,hb.2.1,by omega⟩
  ·kernel_rfl
 ·have h3:decide ((256:Int)≤(x:Int))=true:=wz (by omega)
  have hq:x/256<256:=by omega
  have hw:IntKind.u8.wrap ((x/256:Nat):Int)=(x/256:Nat):=uo .u8 _ (by simp[IntKind.min,IntKind.signed]<;>omega) (by simp[IntKind.max,IntKind.signed,IntKind.bits]<;>omega)
  have hb:=IL hq
  have hs:shiftOp .shr .u64 (x:Int) 8=some (.int .u64 ((x/256:Nat):Int)):=Hq (a:=x) (n:=8) (by omega) (by omega)
  generalize hy:x/256=y at*
  have hp:0<bl y:=by
   rcases Nat.eq_zero_or_pos (bl y)with e|e
   ·rw[e]at hb;omega
   ·exact e
  simp(disch:=omega)only[↓aa,ab,simprocAttr,sa, *]
  rw[PE y hq]
  ·simp(disch:=omega)only[↓aa,ab,simprocAttr,sa, *]
   refine⟨8+bl y,by congr 1,?_,fun _=>?_,by omega⟩
   ·have:=hb.1
    rw[PJ]
    omega
   ·have:=hb.2.1 hp
    rw[show 8+bl y-1=8+(bl y-1) by omega,PJ]
    omega
  ·kernel_rfl
theorem PK(H:Heap)(q:Nat)(a c:List Value):(H.setRow q a).setRow q c=H.setRow q c:=by
 unfold Heap.setRow
 congr 1
 funext z
 show(if z=q then some _ else if z=q then some _ else H.objs z)=(if z=q then some _ else H.objs z)
 split<;>rfl
theorem zb8(H:Heap)(q:Nat)(c:Nat)(hc:c<18446744073709551616)(hq:H.objs.get q=some (.row [.int .u64 c] none true))(aj:H.lo≤q):af E (aC 211) [ptr q 0] H fun r H'=>∃ y:Nat,y<18446744073709551616∧r= .int .u64 y∧H'=H.setRow q [.int .u64 y]:=by
 obtain⟨y1,a1,b1⟩:=PI c 13 (by decide)
 obtain⟨y2,a2,b2⟩:=IM c y1
 obtain⟨y3,a3,b3⟩:=zb6 y2 a2 7 (by decide)
 obtain⟨y4,a4,b4⟩:=IM y2 y3
 obtain⟨y5,a5,b5⟩:=PI y4 17 (by decide)
 obtain⟨y6,a6,b6⟩:=IM y4 y5
 refine aQ Tryz.f211 ?_
 simp only[Tryz.f211]
 repeat'(first|refine az 1 [Fx,Fx,Fx,Fx,Fx,Fx,Fx,Fx,Fx,Fx] ?_|refine az 2 [Fx,Fx,Fx,Fx,Fx,Fx,Fx,Fx,Fx,Fx] ?_|refine az 3 [Fx,Fx,Fx,Fx,Fx,Fx,Fx,Fx,Fx,Fx] ?_|simp(disch:=omega)only[↓aa,ab,simprocAttr,sa, *])
 exact⟨y6,a6,rfl,by rw[PK,PK]⟩
theorem Iv(H:Heap)(x:Nat)(hx:x<65536):af E (aC 108) [.int .u64 x] H fun r H'=>(∃L:Nat,r= .int .i64 L∧x<2^L∧(0<L→2^(L-1)≤x)∧L≤16)∧H'=H:=by
 refine aQ Tryz.f108 ?_
 simp only[Tryz.f108]
 simp(disch:=omega)only[↓aa,ab,simprocAttr,sa, *]
 refine af.mono (zb7 H x hx) ?_
 rintro _ _ ⟨⟨L,rfl,h1,h2,h3⟩,rfl⟩
 simp(disch:=omega)only[↓aa,ab,simprocAttr,sa, *]
 exact⟨L,rfl,h1,h2,h3⟩
theorem zb9(H:Heap)(x:Nat)(h0:0<x)(hx:x<65536):af E (aC 210) [.int .i64 x] H fun r H'=>(∃m:Nat,r= .int .u64 m∧x<m∧m≤2*x)∧H'=H:=by
 have hw:IntKind.u64.wrap (x:Int)=x:=wrap_u64 (by omega) (by omega)
 refine aQ Tryz.f210 ?_
 simp only[Tryz.f210]
 simp(disch:=omega)only[↓aa,ab,simprocAttr,sa, *]
 refine af.mono (Iv H x hx) ?_
 rintro _ _ ⟨⟨L,rfl,h1,h2,h3⟩,rfl⟩
 have hL:0<L:=by
  rcases Nat.eq_zero_or_pos L with e|e
  ·rw[e]at h1;omega
  ·exact e
 have h4:=h2 hL
 have e2:2^L=2*2^(L-1):=by
  rw[←Nat.pow_succ']
  congr 1
  omega
 have hs:shiftOp .shl .u64 1 (L:Int)=some (.int .u64 ((1*2^L:Nat):Int)):=Eo (a:=1) (n:=L) (by omega) (by omega)
 rw[wbU]at hs
 have hm:2^L≤2*x:=by omega
 clear e2 h4 h2
 generalize 2^L=m at*
 simp(disch:=omega)only[↓aa,ab,simprocAttr,sa, *]
 exact⟨m,rfl,h1,hm⟩
section
variable{b g:Nat}{H:Heap}{r n k:Nat}{l:List Int}
theorem zbX(h:DS b g H (.slice (some ⟨r,0,none⟩) n k) l)(a e:Int)(ha:0≤a)(IE:a≤e)(he:e≤n):
  af E (aC 150) [.slice (some ⟨r,0,none⟩) n k,.int .i64 a,.int .i64 e] H fun v H'=>v= .tuple #[]∧SD b g H H' (.slice (some ⟨r,0,none⟩) n k) l:=by
 obtain⟨hl,hn, -⟩:=h.eZ
 refine aQ Tryz.f150 ?_
 simp only[Tryz.f150]
 simp(disch:=omega)only[↓aa,ab,simprocAttr,sa, *]
 all_goals try omega
 refine bC H [0,6,7] (fun T5 H5 u5 j5 n5 l5 g5=>?_) aw
 try simp(disch:=omega)only[sm,sl]at n5 l5 g5
 simp only[sq,simprocAttr]at u5
 refine bt kq (fun nn T X=>∃ (i j:Int),nn=(j-i).toNat∧(T.get 6=some (.int .i64 i)∧T.get 7=some (.int .i64 j))∧(T.get 0=T5.get 0)∧True∧True∧(0≤i∧j<e∧SD b g H X (.slice (some ⟨r,0,none⟩) n k) l)) ?_ ?_
 ·refine⟨_,a,e-1,rfl,?_,?_,trivial,trivial,ha,by omega,SD.ko h j5 l5⟩<;>exact ay
 rintro nn iB X5 ⟨i,j,rfl,m5,w5,_,_,hi,hj,l',hp,hD,hE⟩ Qs hQ aD ai
 obtain⟨jh, -, -, -,full,gg,Y1,Y2,F,G,e1,qA,q1,q2,q3,q4,q5,q6,q7,q8⟩:=hD.eZ
 by_cases hlt:i<j
 ·repeat'(first|refine az 3 [Fx,Fx,Fx,Fx,Fx,Fx,Fx,Fx,Fx,Fx,Fx,Fx,Fx,Fx,Fx,Fx] ?_|simp(disch:=omega)only[↓aa,ab,simprocAttr,sa,iX, *])
  all_goals try omega
  refine hQ _ _ _ ?_ ⟨i+1,j-1,rfl,?_,?_,trivial,trivial,by omega,by omega,(q4 i j (by omega) (by omega) (by omega) (by omega)).trans hp hE⟩<;>exact ay
 ·repeat'(first|((with_reducible show Qs _ _ _ _ _);refine ai _ _ _ _ ?_)|simp(disch:=omega)only[↓aa,ab,simprocAttr,sa, *])
  all_goals first|exact⟨l',hp,hD,hE⟩|trace_state
theorem zbY(h:DS b g H (.slice (some ⟨r,0,none⟩) n k) l)(a e:Int)(ha:0≤a)(IE:a≤e)(he:e≤n):
  af E (aC 146) [.slice (some ⟨r,0,none⟩) n k,.int .i64 a,.int .i64 e] H fun v H'=>v= .tuple #[]∧SD b g H H' (.slice (some ⟨r,0,none⟩) n k) l:=by
 obtain⟨hl,hn, -⟩:=h.eZ
 refine aQ Tryz.f146 ?_
 simp only[Tryz.f146]
 simp(disch:=omega)only[↓aa,ab,simprocAttr,sa, *]
 all_goals try omega
 refine bC H [0,1,2,6] (fun T5 H5 u5 j5 n5 l5 g5=>?_) aw
 try simp(disch:=omega)only[sm,sl]at n5 l5 g5
 simp only[sq,simprocAttr]at u5
 refine bt kq (fun nn T X=>∃ (i:Int),nn=(e-i).toNat∧(T.get 6=some (.int .i64 i))∧(T.get 0=T5.get 0∧T.get 1=T5.get 1∧T.get 2=T5.get 2)∧True∧True∧(a<i∧SD b g H X (.slice (some ⟨r,0,none⟩) n k) l)) ?_ ?_
 ·refine⟨_,a+1,rfl,?_,?_,trivial,trivial,by omega,SD.ko h j5 l5⟩<;>exact ay
 rintro nn iB X5 ⟨i,rfl,m5,w5,_,_,hi,l',hp,hD,hE⟩ Qs hQ aD ai
 have fO:=hQ;have uH:=aD
 by_cases hlt:i<e
 ·simp(disch:=omega)only[↓aa,ab,simprocAttr,sa, *]
  all_goals try omega
  refine bC X5 [0,1,2,6,7] (fun T6 H6 u6 j6 n6 l6 g6=>?_) aw
  try simp(disch:=omega)only[sm,sl]at n6 l6 g6
  simp only[sq,simprocAttr]at u6
  refine bt kq (fun nn T X=>∃ (j:Int),nn=(j-a).toNat∧(T.get 7=some (.int .i64 j))∧(T.get 0=T6.get 0∧T.get 1=T6.get 1∧T.get 2=T6.get 2∧T.get 6=T6.get 6)∧True∧True∧(a≤j∧j≤i∧SD b g H X (.slice (some ⟨r,0,none⟩) n k) l)) ?_ ?_
  ·refine⟨_,i,rfl,?_,?_,trivial,trivial,by omega,by omega,(hD.ko j6 l6).go hp (hE.trans (hD.cU j6 l6))⟩<;>exact ay
  clear hD hE hp
  rintro nn xh X6 ⟨j,rfl,m6,w6,_,_,hj,tq,l',hp,hD,hE⟩ Qs hQ aD ai
  obtain⟨jh, -, -, -,full,gg,Y1,Y2,F,G,e1,qA,q1,q2,q3,q4,q5,q6,q7,q8⟩:=hD.eZ
  repeat'(first|(apply ao<;>intro)|refine az 4 [Fx,Fx,Fx,Fx,Fx,Fx,Fx,Fx,Fx,Fx,Fx,Fx,Fx,Fx,Fx] ?_|refine az 6 [Fx,Fx,Fx,Fx,Fx,Fx,Fx,Fx,Fx,Fx,Fx,Fx,Fx,Fx,Fx,Fx,Fx,Fx] ?_|((with_reducible show af _ _ _ _ _);refine lI (mz _ _ _) ?_)|((with_reducible show Qs _ _ _ _ _);refine ai _ _ _ _ ?_)|simp(disch:=omega)only[↓aa,ab,simprocAttr,sa,iX, *])
  all_goals try omega
  all_goals first
   |(refine hQ _ _ _ ?_ ⟨j-1,rfl,?_,?_,trivial,trivial,by omega,by omega,(q4 j (j-1) (by omega) (by omega) (by omega) (by omega)).trans hp hE⟩<;>exact ay)
   |(have hQ:=fO;refine hQ _ _ _ ?_ ⟨i+1,rfl,?_,?_,trivial,trivial,by omega,hD.go hp hE⟩<;>exact ay)
   |trace_state
 ·repeat'(first|((with_reducible show Qs _ _ _ _ _);refine ai _ _ _ _ ?_)|simp(disch:=omega)only[↓aa,ab,simprocAttr,sa, *])
  all_goals first|exact⟨l',hp,hD,hE⟩|trace_state
theorem Pz(h:DS b g H (.slice (some ⟨r,0,none⟩) n k) l)(lo hi fi:Int)(h0:0≤lo)(hf:0≤fi)(hh:0≤hi)(hn:fi+hi≤n)(hlh:lo≤hi):
  af E (aC 209) [.slice (some ⟨r,0,none⟩) n k,.int .i64 lo,.int .i64 hi,.int .i64 fi] H fun v H'=>v= .tuple #[]∧SD b g H H' (.slice (some ⟨r,0,none⟩) n k) l:=by
 obtain⟨hl,hn2, -⟩:=h.eZ
 refine aQ Tryz.f209 ?_
 simp only[Tryz.f209]
 simp(disch:=omega)only[↓aa,ab,simprocAttr,sa, *]
 all_goals try omega
 refine bC H [0,2,3,8] (fun T5 H5 u5 j5 n5 l5 g5=>?_) aw
 try simp(disch:=omega)only[sm,sl]at n5 l5 g5
 simp only[sq,simprocAttr]at u5
 refine bt kq (fun nn T X=>∃ (i:Int),nn=(hi-i).toNat∧(T.get 8=some (.int .i64 i))∧(T.get 0=T5.get 0∧T.get 2=T5.get 2∧T.get 3=T5.get 3)∧True∧True∧(0≤i∧i≤hi∧SD b g H X (.slice (some ⟨r,0,none⟩) n k) l)) ?_ ?_
 ·refine⟨_,lo,rfl,?_,?_,trivial,trivial,by omega,by omega,SD.ko h j5 l5⟩<;>exact ay
 rintro nn iB X5 ⟨i,rfl,m5,w5,_,_,PA,hi1,l',hp,hD,hE⟩ Qs hQ aD ai
 obtain⟨jh, -, -, -,full,gg,Y1,Y2,F,G,e1,qA,q1,q2,q3,q4,q5,q6,q7,q8⟩:=hD.eZ
 have hA:fi+(2*i+1)+1=fi+(2*i+1+1):=by omega
 repeat'(first|(apply ao<;>intro)|apply bQ|refine az 3 [Fx,Fx,Fx,Fx,Fx,Fx,Fx,Fx,Fx,Fx,Fx,Fx,Fx,Fx,Fx,Fx,Fx,Fx,Fx,Fx] ?_|refine az 5 [Fx,Fx,Fx,Fx,Fx,Fx,Fx,Fx,Fx,Fx,Fx,Fx,Fx,Fx] ?_|refine az 6 [Fx,Fx,Fx,Fx,Fx,Fx,Fx,Fx,Fx,Fx,Fx,Fx,Fx,Fx,Fx,Fx,Fx,Fx,Fx,Fx,Fx,Fx,Fx,Fx] ?_|((with_reducible show af _ _ _ _ _);refine lI (mz _ _ _) ?_)|((with_reducible show Qs _ _ _ _ _);first|refine ai _ _ _ _ ?_|refine aD _ _ _ ?_)|simp(disch:=omega)only[↓aa,ab,simprocAttr,sa,iX, *])
 all_goals try omega
 all_goals first
  |(refine hQ _ _ _ ?_ ⟨2*i+1,rfl,?_,?_,trivial,trivial,by omega,by omega,(q4 (fi+i) (fi+(2*i+1)) (by omega) (by omega) (by omega) (by omega)).trans hp hE⟩<;>exact ay)
  |(refine hQ _ _ _ ?_ ⟨2*i+1+1,rfl,?_,?_,trivial,trivial,by omega,by omega,(q4 (fi+i) (fi+(2*i+1+1)) (by omega) (by omega) (by omega) (by omega)).trans hp hE⟩<;>exact ay)
  |exact⟨l',hp,hD,hE⟩
  |trace_state
theorem zbZ{x:Int}(h: -1≤x):0≤x.tdiv 2∧x.tdiv 2≤x+1:=by
 by_cases h0:x= -1
 ·subst h0;decide
 ·rw[Int.tdiv_eq_ediv_of_nonneg (by omega)];omega
theorem zb0(h:DS b g H (.slice (some ⟨r,0,none⟩) n k) l)(a e:Int)(ha:0≤a)(IE:a≤e)(he:e≤n):
  af E (aC 147) [.slice (some ⟨r,0,none⟩) n k,.int .i64 a,.int .i64 e] H fun v H'=>v= .tuple #[]∧SD b g H H' (.slice (some ⟨r,0,none⟩) n k) l:=by
 obtain⟨hl,hn, -⟩:=h.eZ
 have hq:=zbZ (x:=e-a-1) (by omega)
 refine aQ Tryz.f147 ?_
 simp only[Tryz.f147]
 simp(disch:=omega)only[↓aa,ab,simprocAttr,sa, *]
 all_goals try omega
 refine bC H [0,6,7,8,9] (fun T5 H5 u5 j5 n5 l5 g5=>?_) aw
 try simp(disch:=omega)only[sm,sl]at n5 l5 g5
 simp only[sq,simprocAttr]at u5
 refine bt kq (fun nn T X=>∃ (i:Int),nn=(i+1).toNat∧(T.get 9=some (.int .i64 i))∧(T.get 0=T5.get 0∧T.get 6=T5.get 6∧T.get 7=T5.get 7∧T.get 8=T5.get 8)∧True∧True∧(-1≤i∧i≤e-a∧SD b g H X (.slice (some ⟨r,0,none⟩) n k) l)) ?_ ?_
 ·refine⟨_,(e-a-1).tdiv 2,rfl,?_,?_,trivial,trivial,by omega,by omega,SD.ko h j5 l5⟩<;>exact ay
 rintro nn iB X5 ⟨i,rfl,m5,w5,_,_,hi,yj,l',hp,hD,hE⟩ Qs hQ aD ai
 by_cases hlt:0≤i
 ·simp(disch:=omega)only[↓aa,ab,simprocAttr,sa, *]
  all_goals try omega
  refine af.mono (Pz hD i (e-a) a (by omega) (by omega) (by omega) (by omega) (by omega)) ?_
  rintro _ Z ⟨rfl,hZ⟩
  repeat'(first|(apply ao<;>intro)|apply bQ|refine kV (fun _=>?_) (fun _=>?_)|refine az 10 [Fx,Fx,Fx,Fx,Fx,Fx,Fx,Fx,Fx,Fx,Fx,Fx,Fx,Fx,Fx,Fx,Fx,Fx,Fx,Fx] ?_|((with_reducible show Qs _ _ _ _ _);first|refine ai _ _ _ _ ?_|refine aD _ _ _ ?_)|simp(disch:=omega)only[↓aa,ab,simprocAttr,sa, *])
  all_goals try omega
  refine hQ _ _ _ ?_ ⟨i-1,rfl,?_,?_,trivial,trivial,by omega,by omega,hZ.trans hp hE⟩<;>exact ay
 ·repeat'(first|((with_reducible show Qs _ _ _ _ _);refine ai _ _ _ _ ?_)|simp(disch:=omega)only[↓aa,ab,simprocAttr,sa, *])
  all_goals try omega
  refine bC X5 [0,6,7,10] (fun T6 H6 u6 j6 n6 l6 g6=>?_) aw
  try simp(disch:=omega)only[sm,sl]at n6 l6 g6
  simp only[sq,simprocAttr]at u6
  refine bt kq (fun nn T X=>∃ (j:Int),nn=(j+1).toNat∧(T.get 10=some (.int .i64 j))∧(T.get 0=T6.get 0∧T.get 6=T6.get 6∧T.get 7=T6.get 7)∧True∧True∧(-1≤j∧j<e-a∧SD b g H X (.slice (some ⟨r,0,none⟩) n k) l)) ?_ ?_
  ·refine⟨_,e-a-1,rfl,?_,?_,trivial,trivial,by omega,by omega,(hD.ko j6 l6).go hp (hE.trans (hD.cU j6 l6))⟩<;>exact ay
  clear hD hE hp
  rintro nn xh X6 ⟨j,rfl,m6,w6,_,_,hj,tq,l',hp,hD,hE⟩ Qs hQ aD ai
  obtain⟨jh, -, -, -,full,gg,Y1,Y2,F,G,e1,qA,q1,q2,q3,q4,q5,q6,q7,q8⟩:=hD.eZ
  by_cases ma:0≤j
  ·repeat'(first|refine az 10 [Fx,Fx,Fx,Fx,Fx,Fx,Fx,Fx,Fx,Fx,Fx,Fx,Fx,Fx,Fx,Fx,Fx,Fx,Fx,Fx] ?_|simp(disch:=omega)only[↓aa,ab,simprocAttr,sa,iX, *])
   all_goals try omega
   obtain⟨l2,oI,gQ,bz⟩:=q4 a (a+j) (by omega) (by omega) (by omega) (by omega)
   refine af.mono (Pz gQ 0 j a (by omega) (by omega) (by omega) (by omega) (by omega)) ?_
   rintro _ Z ⟨rfl,hZ⟩
   repeat'(first|(apply ao<;>intro)|apply bQ|refine kV (fun _=>?_) (fun _=>?_)|refine az 10 [Fx,Fx,Fx,Fx,Fx,Fx,Fx,Fx,Fx,Fx,Fx,Fx,Fx,Fx,Fx,Fx,Fx,Fx,Fx,Fx] ?_|((with_reducible show Qs _ _ _ _ _);first|refine ai _ _ _ _ ?_|refine aD _ _ _ ?_)|simp(disch:=omega)only[↓aa,ab,simprocAttr,sa, *])
   all_goals try omega
   refine hQ _ _ _ ?_ ⟨j-1,rfl,?_,?_,trivial,trivial,by omega,by omega,(hZ.trans oI bz).trans hp hE⟩<;>exact ay
  ·repeat'(first|((with_reducible show Qs _ _ _ _ _);refine ai _ _ _ _ ?_)|simp(disch:=omega)only[↓aa,ab,simprocAttr,sa, *])
   all_goals first|exact⟨l',hp,hD,hE⟩|trace_state
end
end Go.AM
