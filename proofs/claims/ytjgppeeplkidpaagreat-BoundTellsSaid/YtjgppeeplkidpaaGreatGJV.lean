/-
  Walks over letters of the functions that the law reaches; written small by a program of mine.
-/
import Derived.Test.YtjgppeeplkidpaaGreatGJU
set_option linter.unusedVariables false
set_option linter.unusedSectionVars false
namespace Go.AM
attribute [local instance] fnMaps
open Go Go.Proofs
set_option maxRecDepth 100000
set_option maxHeartbeats 4000000
set_option linter.unusedSimpArgs false
section
variable{b g:Nat}{H:Heap}{r n k:Nat}{l:List Int}
theorem zb2(h:DS b g H (.slice (some ⟨r,0,none⟩) n k) l)(a e pv:Int)(ha:0≤a)(h1:a≤pv)(h2:pv<e)(he:e≤n):
  af E (aC 154) [(.slice (some ⟨r,0,none⟩) n k),.int .i64 a,.int .i64 e,.int .i64 pv] H fun v H'=>∃ (m:Int) (t:Bool),(a≤m∧m<e)∧v= .tuple #[.int .i64 m,.bool t]∧SD b g H H' (.slice (some ⟨r,0,none⟩) n k) l:=by
 obtain⟨hl,hn, -, -,full,gg,Y1,Y2,F,G,e1,qA,q1,q2,q3,q4,q5,q6,q7,q8⟩:=h.eZ
 obtain⟨l1,p1,d1,f1⟩:=q4 a pv (by omega) (by omega) (by omega) (by omega)
 refine aQ Tryz.f154 ?_
 simp only[Tryz.f154]
 repeat'(first|refine az 1 [Fx,Fx,Fx,Fx,Fx,Fx,Fx,Fx,Fx,Fx,Fx,Fx,Fx,Fx,Fx,Fx] ?_|simp(disch:=omega)only[↓aa,ab,simprocAttr,sa,iX, *])
 all_goals try omega
 clear q1 q2 q3 q4 q5 q6 q7 q8 qA e1
 generalize Y2 a pv=Z at*
 refine bC Z [0,1,10,11] (fun T5 H5 u5 j5 n5 l5 g5=>?_) aw
 try simp(disch:=omega)only[sm,sl]at n5 l5 g5
 simp only[sq,simprocAttr]at u5
 refine bt kq (fun nn T X=>∃ (i:Int),nn=(e-i).toNat∧(T.get 10=some (.int .i64 i))∧(T.get 0=T5.get 0∧T.get 1=T5.get 1∧T.get 11=T5.get 11)∧True∧True∧(a<i∧i≤e∧SD b g H X (.slice (some ⟨r,0,none⟩) n k) l)) ?_ ?_
 ·refine⟨_,a+1,rfl,?_,?_,trivial,trivial,by omega,by omega,(d1.ko j5 l5).go p1 (f1.trans (d1.cU j5 l5))⟩<;>exact ay
 clear d1 f1
 rintro nn iB X5 ⟨i,rfl,m5,w5,_,_,i1,i2,l',hp,hD,hE⟩ Qs hQ aD ai
 obtain⟨jh, -, -, -,full,gg,Y1,Y2,F,G,e1,qA,q1,q2,q3,q4,q5,q6,q7,q8⟩:=hD.eZ
 repeat'(first|(apply ao<;>intro)|refine az 3 [Fx,Fx,Fx,Fx,Fx,Fx,Fx,Fx,Fx,Fx,Fx,Fx,Fx,Fx] ?_|((with_reducible show af _ _ _ _ _);refine lI (mz _ _ _) ?_)|((with_reducible show Qs _ _ _ _ _);refine ai _ _ _ _ ?_)|simp(disch:=omega)only[↓aa,ab,simprocAttr,sa,iX, *])
 all_goals try omega
 all_goals try(refine hQ _ _ _ ?_ ⟨i+1,rfl,?_,?_,trivial,trivial,by omega,by omega,hD.go hp hE⟩<;>exact ay)
 all_goals
  clear e1 qA q1 q2 q3 q4 q5 q6 q7 q8
  refine bC X5 [0,1,10,11] (fun T6 H6 u6 j6 n6 l6 g6=>?_) aw
  try simp(disch:=omega)only[sm,sl]at n6 l6 g6
  simp only[sq,simprocAttr]at u6
  refine bt kq (fun nn T X=>∃ (j:Int),nn=(j-i+2).toNat∧(T.get 11=some (.int .i64 j))∧(T.get 0=T6.get 0∧T.get 1=T6.get 1∧T.get 10=T6.get 10)∧True∧True∧(i≤j+1∧j<e∧SD b g H X (.slice (some ⟨r,0,none⟩) n k) l)) ?_ ?_
  ·refine⟨_,e-1,rfl,?_,?_,trivial,trivial,by omega,by omega,(hD.ko j6 l6).go hp (hE.trans (hD.cU j6 l6))⟩<;>exact ay
  clear hD hE hp
  rintro nn xh X6 ⟨j,rfl,m6,w6,_,_,k2,k3,l',hp,hD,hE⟩ Qs hQ aD ai
  obtain⟨jh, -, -, -,full,gg,Y1,Y2,F,G,e1,qA,q1,q2,q3,q4,q5,q6,q7,q8⟩:=hD.eZ
  repeat'(first|(apply ao<;>intro)|apply bQ|refine az 5 [Fx,Fx,Fx,Fx,Fx,Fx,Fx,Fx,Fx,Fx,Fx,Fx,Fx,Fx,Fx] ?_|refine az 8 [Fx,Fx,Fx,Fx,Fx,Fx,Fx,Fx,Fx,Fx,Fx,Fx,Fx,Fx,Fx,Fx] ?_|refine az 10 [Fx,Fx,Fx,Fx,Fx,Fx,Fx,Fx,Fx,Fx,Fx,Fx,Fx,Fx,Fx,Fx] ?_|((with_reducible show af _ _ _ _ _);refine lI (mz _ _ _) ?_)|((with_reducible show Qs _ _ _ _ _);refine ai _ _ _ _ ?_)|simp(disch:=omega)only[↓aa,ab,simprocAttr,sa,iX, *])
  all_goals try omega
  all_goals try(refine hQ _ _ _ ?_ ⟨j-1,rfl,?_,?_,trivial,trivial,by omega,by omega,hD.go hp hE⟩<;>exact ay)
  all_goals try(exact⟨j,true,⟨by omega,by omega⟩,rfl,(q4 j a (by omega) (by omega) (by omega) (by omega)).trans hp hE⟩)
  all_goals
   obtain⟨l7,p7,d7,f7⟩:=(q4 i j (by omega) (by omega) (by omega) (by omega)).trans hp hE
   clear q1 q2 q3 q4 q5 q6 q7 q8 qA e1
   generalize Y2 i j=Z7 at*
   refine bC Z7 [0,1,10,11] (fun T7 H7 u7 j7 n7 l7 g7=>?_) aw
   try simp(disch:=omega)only[sm,sl]at n7 l7 g7
   simp only[sq,simprocAttr]at u7
   refine bt kq (fun nn T X=>∃ (i j:Int),nn=(j-i+2).toNat∧(T.get 10=some (.int .i64 i)∧T.get 11=some (.int .i64 j))∧(T.get 0=T7.get 0∧T.get 1=T7.get 1)∧True∧True∧(a<i∧i≤j+2∧a≤j∧j<e∧SD b g H X (.slice (some ⟨r,0,none⟩) n k) l)) ?_ ?_
   ·refine⟨_,i+1,j-1,rfl,?_,?_,trivial,trivial,by omega,by omega,by omega,by omega,(d7.ko j7 l7).go p7 (f7.trans (d7.cU j7 l7))⟩<;>exact ay
   clear d7 f7 hD hE hp
   rintro nn En X7 ⟨i0,j0,rfl,m7,w7,_,_,i1,i2,i3,i4,l',hp,hD,hE⟩ Qs hQ aD ai
   have fO:=hQ;have IF:=ai
   simp(disch:=omega)only[↓aa,ab,simprocAttr,sa, *]
   all_goals try omega
   refine bC X7 [0,1,10,11] (fun T8 H8 u8 j8 n8 l8 g8=>?_) aw
   try simp(disch:=omega)only[sm,sl]at n8 l8 g8
   simp only[sq,simprocAttr]at u8
   refine bt kq (fun nn T X=>∃ (i:Int),nn=(j0-i+2).toNat∧(T.get 10=some (.int .i64 i))∧(T.get 0=T8.get 0∧T.get 1=T8.get 1∧T.get 11=T8.get 11)∧True∧True∧(i0≤i∧i≤j0+2∧SD b g H X (.slice (some ⟨r,0,none⟩) n k) l)) ?_ ?_
   ·refine⟨_,i0,rfl,?_,?_,trivial,trivial,by omega,by omega,(hD.ko j8 l8).go hp (hE.trans (hD.cU j8 l8))⟩<;>exact ay
   clear hD hE hp
   rintro nn IG X8 ⟨i,rfl,m8,w8,_,_,k1,k2,l',hp,hD,hE⟩ Qs hQ aD ai
   obtain⟨jh, -, -, -,full,gg,Y1,Y2,F,G,e1,qA,q1,q2,q3,q4,q5,q6,q7,q8⟩:=hD.eZ
   repeat'(first|(apply ao<;>intro)|refine az 13 [Fx,Fx,Fx,Fx,Fx,Fx,Fx,Fx,Fx,Fx,Fx,Fx,Fx,Fx] ?_|((with_reducible show af _ _ _ _ _);refine lI (mz _ _ _) ?_)|((with_reducible show Qs _ _ _ _ _);refine ai _ _ _ _ ?_)|simp(disch:=omega)only[↓aa,ab,simprocAttr,sa,iX, *])
   all_goals try omega
   all_goals try(refine hQ _ _ _ ?_ ⟨i+1,rfl,?_,?_,trivial,trivial,by omega,by omega,hD.go hp hE⟩<;>exact ay)
   all_goals
    clear e1 qA q1 q2 q3 q4 q5 q6 q7 q8
    refine bC X8 [0,1,10,11] (fun T9 H9 u9 j9 n9 l9 g9=>?_) aw
    try simp(disch:=omega)only[sm,sl]at n9 l9 g9
    simp only[sq,simprocAttr]at u9
    refine bt kq (fun nn T X=>∃ (j:Int),nn=(j-i+2).toNat∧(T.get 11=some (.int .i64 j))∧(T.get 0=T9.get 0∧T.get 1=T9.get 1∧T.get 10=T9.get 10)∧True∧True∧(i≤j+2∧a≤j∧j≤j0∧SD b g H X (.slice (some ⟨r,0,none⟩) n k) l)) ?_ ?_
    ·refine⟨_,j0,rfl,?_,?_,trivial,trivial,by omega,by omega,by omega,(hD.ko j9 l9).go hp (hE.trans (hD.cU j9 l9))⟩<;>exact ay
    clear hD hE hp
    rintro nn T9' X9 ⟨j,rfl,m9,w9,_,_,k2,k3,k4,l',hp,hD,hE⟩ Qs hQ aD ai
    obtain⟨jh, -, -, -,full,gg,Y1,Y2,F,G,e1,qA,q1,q2,q3,q4,q5,q6,q7,q8⟩:=hD.eZ
    repeat'(first|(apply ao<;>intro)|apply bQ|refine az 15 [Fx,Fx,Fx,Fx,Fx,Fx,Fx,Fx,Fx,Fx,Fx,Fx,Fx,Fx,Fx] ?_|refine az 18 [Fx,Fx,Fx,Fx,Fx,Fx,Fx,Fx,Fx,Fx,Fx,Fx,Fx,Fx,Fx,Fx] ?_|((with_reducible show af _ _ _ _ _);refine lI (mz _ _ _) ?_)|((with_reducible show Qs _ _ _ _ _);refine ai _ _ _ _ ?_)|simp(disch:=omega)only[↓aa,ab,simprocAttr,sa,iX, *])
    all_goals try omega
    all_goals try(refine hQ _ _ _ ?_ ⟨j-1,rfl,?_,?_,trivial,trivial,by omega,by omega,by omega,hD.go hp hE⟩<;>exact ay)
    all_goals try(have hQ:=fO;refine hQ _ _ _ ?_ ⟨i+1,j-1,rfl,?_,?_,trivial,trivial,by omega,by omega,by omega,by omega,(q4 i j (by omega) (by omega) (by omega) (by omega)).trans hp hE⟩<;>exact ay)
    all_goals
     refine IF _ _ _ _ ?_
     repeat'(first|refine az 21 [Fx,Fx,Fx,Fx,Fx,Fx,Fx,Fx,Fx,Fx,Fx,Fx,Fx,Fx,Fx,Fx] ?_|simp(disch:=omega)only[↓aa,ab,simprocAttr,sa,iX, *])
     all_goals try omega
     exact⟨j,false,⟨by omega,by omega⟩,rfl,(q4 j a (by omega) (by omega) (by omega) (by omega)).trans hp hE⟩
end
end Go.AM
