/-
  Walks over letters of the functions that the law reaches; written small by a program of mine.
-/
import Derived.Test.YtjgppeeplkidpaaGreatGJV
set_option linter.unusedVariables false
set_option linter.unusedSectionVars false
namespace Go.AM
attribute [local instance] fnMaps
open Go Go.Proofs
set_option maxRecDepth 100000
set_option maxHeartbeats 4000000
set_option linter.unusedSimpArgs false
section
variable{b g:Nat}{H:Heap}{r n k:Nat}{l:List Int}
theorem zb3(h:DS b g H (.slice (some ⟨r,0,none⟩) n k) l)(a e:Int)(ha:0≤a)(IE:a<e)(he:e≤n):
  af E (aC 151) [(.slice (some ⟨r,0,none⟩) n k),.int .i64 a,.int .i64 e] H fun v H'=>∃ t:Bool,v= .bool t∧SD b g H H' (.slice (some ⟨r,0,none⟩) n k) l:=by
 obtain⟨hl,hn, -⟩:=h.eZ
 refine aQ Tryz.f151 ?_
 simp only[Tryz.f151]
 simp(disch:=omega)only[↓aa,ab,simprocAttr,sa, *]
 all_goals try omega
 refine bC H [0,1,2,7,8] (fun T5 H5 u5 j5 n5 l5 g5=>?_) aw
 try simp(disch:=omega)only[sm,sl]at n5 l5 g5
 simp only[sq,simprocAttr]at u5
 refine bt kq (fun nn T X=>∃ (c i:Int),nn=(5-c).toNat∧(T.get 7=some (.int .i64 i)∧T.get 8=some (.int .i64 c))∧(T.get 0=T5.get 0∧T.get 1=T5.get 1∧T.get 2=T5.get 2)∧True∧True∧(a<i∧i≤e∧0≤c∧c≤5∧SD b g H X (.slice (some ⟨r,0,none⟩) n k) l)) ?_ ?_
 ·refine⟨_,0,a+1,rfl,?_,?_,trivial,trivial,by omega,by omega,by omega,by omega,SD.ko h j5 l5⟩<;>exact ay
 rintro nn iB X5 ⟨c,i0,rfl,m5,w5,_,_,i1,i2,i3,i4,l',hp,hD,hE⟩ Qs hQ aD ai
 have fO:=hQ;have uH:=aD
 by_cases hc:c<5
 ·simp(disch:=omega)only[↓aa,ab,simprocAttr,sa, *]
  all_goals try omega
  refine bC X5 [0,1,2,7,8] (fun T6 H6 u6 j6 n6 l6 g6=>?_) aw
  try simp(disch:=omega)only[sm,sl]at n6 l6 g6
  simp only[sq,simprocAttr]at u6
  refine bt kq (fun nn T X=>∃ (i:Int),nn=(e-i).toNat∧(T.get 7=some (.int .i64 i))∧(T.get 0=T6.get 0∧T.get 1=T6.get 1∧T.get 2=T6.get 2∧T.get 8=T6.get 8)∧True∧True∧(a<i∧i≤e∧SD b g H X (.slice (some ⟨r,0,none⟩) n k) l)) ?_ ?_
  ·refine⟨_,i0,rfl,?_,?_,trivial,trivial,by omega,by omega,(hD.ko j6 l6).go hp (hE.trans (hD.cU j6 l6))⟩<;>exact ay
  clear hD hE hp
  rintro nn xh X6 ⟨i,rfl,m6,w6,_,_,k1,k2,l',hp,hD,hE⟩ Qs hQ aD ai
  obtain⟨jh, -, -, -,full,gg,Y1,Y2,F,G,e1,qA,q1,q2,q3,q4,q5,q6,q7,q8⟩:=hD.eZ
  repeat'(first|(apply ao<;>intro)|apply bQ|refine az 5 [Fx,Fx,Fx,Fx,Fx,Fx,Fx,Fx,Fx,Fx,Fx,Fx,Fx,Fx,Fx,Fx] ?_|refine az 11 [Fx,Fx,Fx,Fx,Fx,Fx,Fx,Fx,Fx,Fx,Fx,Fx,Fx,Fx,Fx,Fx,Fx,Fx] ?_|((with_reducible show af _ _ _ _ _);refine lI (mz _ _ _) ?_)|((with_reducible show Qs _ _ _ _ _);refine ai _ _ _ _ ?_)|simp(disch:=omega)only[↓aa,ab,simprocAttr,sa,iX, *])
  all_goals try omega
  all_goals try(refine hQ _ _ _ ?_ ⟨i+1,rfl,?_,?_,trivial,trivial,by omega,by omega,hD.go hp hE⟩<;>exact ay)
  all_goals try(refine uH _ _ _ ?_;simp(disch:=omega)only[↓aa,ab,simprocAttr,sa, *];exact⟨_,rfl,l',hp,hD,hE⟩)
  all_goals
   obtain⟨l',hp,hD,hE⟩:=(q4 i (i-1) (by omega) (by omega) (by omega) (by omega)).trans hp hE
   clear e1 qA q1 q2 q3 q4 q5 q6 q7 q8
   generalize Y2 i (i-1)=X7 at*
  all_goals try
   have hA:2≤i-a:=by omega
   refine bC X7 [0,1,2,7,8,9] (fun T8 H8 u8 j8 n8 l8 g8=>?_) aw
   try simp(disch:=omega)only[sm,sl]at n8 l8 g8
   simp only[sq,simprocAttr]at u8
   refine bt kq (fun nn T X=>∃ (j:Int),nn=j.toNat∧(T.get 9=some (.int .i64 j))∧(T.get 0=T8.get 0∧T.get 1=T8.get 1∧T.get 2=T8.get 2∧T.get 7=T8.get 7∧T.get 8=T8.get 8)∧True∧True∧(0≤j∧j<i∧SD b g H X (.slice (some ⟨r,0,none⟩) n k) l)) ?_ ?_
   ·refine⟨_,i-1,rfl,?_,?_,trivial,trivial,by omega,by omega,(hD.ko j8 l8).go hp (hE.trans (hD.cU j8 l8))⟩<;>exact ay
   clear hD hE hp
   rintro nn IG X8 ⟨j,rfl,m8,w8,_,_,k3,k4,l',hp,hD,hE⟩ Qs hQ aD ai
   obtain⟨jh, -, -, -,full,gg,Y1,Y2,F,G,e1,qA,q1,q2,q3,q4,q5,q6,q7,q8⟩:=hD.eZ
   repeat'(first|(apply ao<;>intro)|apply bQ|refine az 16 [Fx,Fx,Fx,Fx,Fx,Fx,Fx,Fx,Fx,Fx,Fx] ?_|refine az 17 [Fx,Fx,Fx,Fx,Fx,Fx,Fx,Fx,Fx,Fx,Fx,Fx,Fx,Fx,Fx,Fx,Fx,Fx] ?_|((with_reducible show af _ _ _ _ _);refine lI (mz _ _ _) ?_)|((with_reducible show Qs _ _ _ _ _);refine ai _ _ _ _ ?_)|simp(disch:=omega)only[↓aa,ab,simprocAttr,sa,iX, *])
   all_goals try omega
   all_goals try(refine hQ _ _ _ ?_ ⟨j-1,rfl,?_,?_,trivial,trivial,by omega,by omega,(q4 j (j-1) (by omega) (by omega) (by omega) (by omega)).trans hp hE⟩<;>exact ay)
  all_goals try(have hQ:=fO;refine hQ _ _ _ ?_ ⟨c+1,i,rfl,?_,?_,trivial,trivial,by omega,by omega,by omega,by omega,hD.go hp hE⟩<;>exact ay)
  all_goals
   rename Heap=>X9
   refine bC X9 [0,1,2,7,8,10] (fun Bm H10 OZ PC n10 IH CJ=>?_) aw
   try simp(disch:=omega)only[sm,sl]at n10 IH CJ
   simp only[sq,simprocAttr]at OZ
   refine bt kq (fun nn T X=>∃ (j:Int),nn=(e-j).toNat∧(T.get 10=some (.int .i64 j))∧(T.get 0=Bm.get 0∧T.get 1=Bm.get 1∧T.get 2=Bm.get 2∧T.get 7=Bm.get 7∧T.get 8=Bm.get 8)∧True∧True∧(i<j∧j≤e∧SD b g H X (.slice (some ⟨r,0,none⟩) n k) l)) ?_ ?_
   ·refine⟨_,i+1,rfl,?_,?_,trivial,trivial,by omega,by omega,(hD.ko PC IH).go hp (hE.trans (hD.cU PC IH))⟩<;>exact ay
   clear hD hE hp
   rintro nn zih X10 ⟨j,rfl,m10,w10,_,_,k5,k6,l',hp,hD,hE⟩ Qs hQ aD ai
   obtain⟨jh, -, -, -,full,gg,Y1,Y2,F,G,e1,qA,q1,q2,q3,q4,q5,q6,q7,q8⟩:=hD.eZ
   repeat'(first|(apply ao<;>intro)|apply bQ|refine az 22 [Fx,Fx,Fx,Fx,Fx,Fx,Fx,Fx,Fx,Fx,Fx] ?_|refine az 23 [Fx,Fx,Fx,Fx,Fx,Fx,Fx,Fx,Fx,Fx,Fx,Fx,Fx,Fx,Fx,Fx,Fx,Fx] ?_|((with_reducible show af _ _ _ _ _);refine lI (mz _ _ _) ?_)|((with_reducible show Qs _ _ _ _ _);refine ai _ _ _ _ ?_)|simp(disch:=omega)only[↓aa,ab,simprocAttr,sa,iX, *])
   all_goals try omega
   all_goals try(refine hQ _ _ _ ?_ ⟨j+1,rfl,?_,?_,trivial,trivial,by omega,by omega,(q4 j (j-1) (by omega) (by omega) (by omega) (by omega)).trans hp hE⟩<;>exact ay)
   all_goals first|(have hQ:=fO;refine hQ _ _ _ ?_ ⟨c+1,i,rfl,?_,?_,trivial,trivial,by omega,by omega,by omega,by omega,hD.go hp hE⟩<;>exact ay)|trace_state
 ·repeat'(first|((with_reducible show Qs _ _ _ _ _);refine ai _ _ _ _ ?_)|simp(disch:=omega)only[↓aa,ab,simprocAttr,sa, *])
  all_goals try omega
  all_goals first|exact⟨_,rfl,l',hp,hD,hE⟩|trace_state
end
end Go.AM
