/-
  Walks over letters of the functions that the law reaches; written small by a program of mine.
-/
import Derived.Test.YtjgppeeplkidpaaGreatGYN
set_option linter.unusedVariables false
set_option linter.unusedSectionVars false
namespace Go.AM
attribute [local instance] fnMaps
open Go Go.Proofs
set_option maxRecDepth 100000
set_option maxHeartbeats 4000000
set_option linter.unusedSimpArgs false
section
variable{b g:Nat}{H:Heap}{r n k:Nat}{l:List Int}
theorem zb1(h:DS b g H (.slice (some ⟨r,0,none⟩) n k) l)(a e pv:Int)(ha:0≤a)(h1:a≤pv)(h2:pv<e)(he:e≤n):
  af E (aC 153) [(.slice (some ⟨r,0,none⟩) n k),.int .i64 a,.int .i64 e,.int .i64 pv] H fun v H'=>∃ m:Int,(a<m∧m≤e)∧v= .int .i64 m∧SD b g H H' (.slice (some ⟨r,0,none⟩) n k) l:=by
 obtain⟨hl,hn, -, -,full,gg,Y1,Y2,F,G,e1,qA,q1,q2,q3,q4,q5,q6,q7,q8⟩:=h.eZ
 obtain⟨l1,p1,d1,f1⟩:=q4 a pv (by omega) (by omega) (by omega) (by omega)
 refine aQ Tryz.f153 ?_
 simp only[Tryz.f153]
 repeat'(first|refine az 1 [Fx,Fx,Fx,Fx,Fx,Fx,Fx,Fx,Fx,Fx,Fx,Fx,Fx,Fx,Fx,Fx] ?_|simp(disch:=omega)only[↓aa,ab,simprocAttr,sa,iX, *])
 all_goals try omega
 clear q1 q2 q3 q4 q5 q6 q7 q8 qA e1
 generalize Y2 a pv=Z at*
 refine bC Z [0,1,9,10] (fun T5 H5 u5 j5 n5 l5 g5=>?_) aw
 try simp(disch:=omega)only[sm,sl]at n5 l5 g5
 simp only[sq,simprocAttr]at u5
 refine bt kq (fun nn T X=>∃ (i j:Int),nn=(j-i+2).toNat∧(T.get 9=some (.int .i64 i)∧T.get 10=some (.int .i64 j))∧(T.get 0=T5.get 0∧T.get 1=T5.get 1)∧True∧True∧(a<i∧i≤j+2∧a≤j∧j<e∧i≤e∧SD b g H X (.slice (some ⟨r,0,none⟩) n k) l)) ?_ ?_
 ·refine⟨_,a+1,e-1,rfl,?_,?_,trivial,trivial,by omega,by omega,by omega,by omega,by omega,(d1.ko j5 l5).go p1 (f1.trans (d1.cU j5 l5))⟩<;>exact ay
 clear d1 f1
 rintro nn iB X5 ⟨i0,j0,rfl,m5,w5,_,_,i1,i2,i3,i4,i5,l',hp,hD,hE⟩ Qs hQ aD ai
 have fO:=hQ;have IF:=ai
 simp(disch:=omega)only[↓aa,ab,simprocAttr,sa, *]
 all_goals try omega
 refine bC X5 [0,1,9,10] (fun T6 H6 u6 j6 n6 l6 g6=>?_) aw
 try simp(disch:=omega)only[sm,sl]at n6 l6 g6
 simp only[sq,simprocAttr]at u6
 refine bt kq (fun nn T X=>∃ (i:Int),nn=(j0-i+2).toNat∧(T.get 9=some (.int .i64 i))∧(T.get 0=T6.get 0∧T.get 1=T6.get 1∧T.get 10=T6.get 10)∧True∧True∧(i0≤i∧i≤j0+2∧i≤e∧SD b g H X (.slice (some ⟨r,0,none⟩) n k) l)) ?_ ?_
 ·refine⟨_,i0,rfl,?_,?_,trivial,trivial,by omega,by omega,by omega,(hD.ko j6 l6).go hp (hE.trans (hD.cU j6 l6))⟩<;>exact ay
 clear hD hE hp
 rintro nn xh X6 ⟨i,rfl,m6,w6,_,_,k1,k2,k5,l',hp,hD,hE⟩ Qs hQ aD ai
 obtain⟨jh, -, -, -,full,gg,Y1,Y2,F,G,e1,qA,q1,q2,q3,q4,q5,q6,q7,q8⟩:=hD.eZ
 repeat'(first|(apply ao<;>intro)|apply bQ|refine az 3 [Fx,Fx,Fx,Fx,Fx,Fx,Fx,Fx,Fx,Fx,Fx,Fx,Fx,Fx,Fx] ?_|((with_reducible show af _ _ _ _ _);refine lI (mz _ _ _) ?_)|((with_reducible show Qs _ _ _ _ _);refine ai _ _ _ _ ?_)|simp(disch:=omega)only[↓aa,ab,simprocAttr,sa,iX, *])
 all_goals try omega
 all_goals try(refine hQ _ _ _ ?_ ⟨i+1,rfl,?_,?_,trivial,trivial,by omega,by omega,by omega,hD.go hp hE⟩<;>exact ay)
 all_goals
  clear e1 qA q1 q2 q3 q4 q5 q6 q7 q8
  refine bC X6 [0,1,9,10] (fun T7 H7 u7 j7 n7 l7 g7=>?_) aw
  try simp(disch:=omega)only[sm,sl]at n7 l7 g7
  simp only[sq,simprocAttr]at u7
  refine bt kq (fun nn T X=>∃ (j:Int),nn=(j-i+2).toNat∧(T.get 10=some (.int .i64 j))∧(T.get 0=T7.get 0∧T.get 1=T7.get 1∧T.get 9=T7.get 9)∧True∧True∧(i≤j+2∧a≤j∧j≤j0∧SD b g H X (.slice (some ⟨r,0,none⟩) n k) l)) ?_ ?_
  ·refine⟨_,j0,rfl,?_,?_,trivial,trivial,by omega,by omega,by omega,(hD.ko j7 l7).go hp (hE.trans (hD.cU j7 l7))⟩<;>exact ay
  clear hD hE hp
  rintro nn En X7 ⟨j,rfl,m7,w7,_,_,k2,k3,k4,l',hp,hD,hE⟩ Qs hQ aD ai
  obtain⟨jh, -, -, -,full,gg,Y1,Y2,F,G,e1,qA,q1,q2,q3,q4,q5,q6,q7,q8⟩:=hD.eZ
  repeat'(first|(apply ao<;>intro)|refine az 5 [Fx,Fx,Fx,Fx,Fx,Fx,Fx,Fx,Fx,Fx,Fx,Fx,Fx,Fx] ?_|refine az 8 [Fx,Fx,Fx,Fx,Fx,Fx,Fx,Fx,Fx,Fx,Fx,Fx,Fx,Fx,Fx,Fx] ?_|((with_reducible show af _ _ _ _ _);refine lI (mz _ _ _) ?_)|((with_reducible show Qs _ _ _ _ _);refine ai _ _ _ _ ?_)|simp(disch:=omega)only[↓aa,ab,simprocAttr,sa,iX, *])
  all_goals try omega
  all_goals try(refine hQ _ _ _ ?_ ⟨j-1,rfl,?_,?_,trivial,trivial,by omega,by omega,by omega,hD.go hp hE⟩<;>exact ay)
  all_goals first
   |(have hQ:=fO;refine hQ _ _ _ ?_ ⟨i+1,j-1,rfl,?_,?_,trivial,trivial,by omega,by omega,by omega,by omega,by omega,(q4 i j (by omega) (by omega) (by omega) (by omega)).trans hp hE⟩<;>exact ay)
   |(refine IF _ _ _ _ ?_;simp(disch:=omega)only[↓aa,ab,simprocAttr,sa, *];exact⟨i,⟨by omega,by omega⟩,rfl,l',hp,hD,hE⟩)
   |trace_state
end
end Go.AM
