/-
  Walks over letters of the functions that the law reaches; written small by a program of mine.
-/
import Derived.Test.YtjgppeeplkidpaaGreatGB0
set_option linter.unusedVariables false
set_option linter.unusedSectionVars false
namespace Go.AM
attribute [local instance] fnMaps
open Go Go.Proofs
set_option maxRecDepth 100000
set_option maxHeartbeats 1000000
set_option linter.unusedSimpArgs false
theorem BA(a b:Nat):((a:Int)+b).fdiv (2^(min 1 (IntKind.bits .u64)))=((a+b)/2:Nat):=by
 have:(min 1 (IntKind.bits .u64))=1:=rfl
 rw[this,wcw _ (by omega)]
 omega
theorem ED{l:List Span}(hr:sr l){i j:Nat}(kb:i<j)(hj:j<l.length):vT l[j] l[i]=1∧vT l[i] l[j]= -1:=
 Ov (hr i j l[i] l[j] kb (wj (by omega)) (wj hj))
theorem OJ(n:Nat):∀ (H:Heap) (_:H.lo≤H.next) (v:Value) (l:List Span) (_:SL bD 2 H v l) (_:sr l) (a m b:Nat) (_:b-a≤n) (_:a<m) (_:m<b) (_:b≤l.length) (_:l.length≤100000),af E (aK 329) [v,.int .i64 a,.int .i64 m,.int .i64 b,aK 313] H fun r H'=>r= .tuple #[]∧aq H H':=by
 induction n
 ·intros;omega
 rename_i n ih
 intro H an v l ij hr a m b hn OK me hb hl
 have hv:=ij
 obtain⟨ad,ca,rfl,⟨_,ft⟩,bs⟩:=hv
 obtain⟨r,o,cells,gg,tt,part,rfl,gS,aC, -⟩:=bs a l[a] (by simp)
 have aR:∀ i (hi:i<l.length),cut cells (o+i*2) 2=some [.int .i64 l[i].ae,.int .i64 l[i].size]:=fun i hi=>by
  obtain⟨r',o',cells',Ie,Ig,Bh,e,cq,ky,ss,e2⟩:=bs i l[i] (by simp)
  cases e
  rw[aC]at ky
  cases ky
  rw[ss,e2]
 have zbg:=BA a b
 refine aV Tryz.f329 ?_
 simp only[Tryz.f329]
 repeat'(first|refine ak (fun _=>?_) (fun _=>?_)|simp(disch:=omega)only[↓aa,ab,simprocAttr,sa,wrap_u64,shift_shr, *])
 case succ.refine_1=>
  refine bP H [0,1,4,10,11] (fun T1 H1 u1 k1 n1 l1 g1=>?_) aj
  try simp(disch:=omega)only[sm,sl]at n1 l1 g1
  simp only[sq,simprocAttr]at u1
  refine bL kq (fun nn T X=>∃ j:Nat,nn=j-m∧(T.get 10=some (.int .i64 m)∧T.get 11=some (.int .i64 j))∧(T.get 0=T1.get 0∧T.get 1=T1.get 1∧T.get 4=T1.get 4)∧Ko H1 X∧X.lo=H1.lo∧(m≤j∧j≤b)) ?_ ?_
  ·refine⟨_,b,rfl,?_,?_,Ko.refl _,rfl,⟨by omega,by omega⟩⟩<;>exact aJ
  rintro nn dA X1 ⟨j,rfl,m1,w1,kx1,eQ,⟨hj,xX⟩⟩ Qs hQ aG ai
  have bz:=k1.trans kx1;have dZ:=kx1.ag;have ed:=kx1.objs
  have e1:=bz.objs r gS
  by_cases hlt:m<j
  ·have hm:m≤(m+j)/2∧(m+j)/2<j:=by omega
   have vY:=BA m j
   generalize (m+j)/2=h at hm vY
   have vZ:=aR h (by omega)
   have BB:=aR a (by omega)
   have a1:=bn (show h<l.length by omega)
   have a2:=bn (show a<l.length by omega)
   have fC:=(ED hr (show a<h by omega) (by omega)).1
   repeat'(first|refine ak (fun _=>?_) (fun _=>?_)|refine aw 5 [Fx,Fx,Fx,Fx,Fx,Fx,Fx,Fx,Fx,Fx,Fx] ?_|((with_reducible show af _ _ _ _ _);refine ao H1 (Bt _ ah l[h] l[a]) ?_;intro H2 k2 l2 n2 g2 q2;try simp(disch:=omega)only[sm,sl]at l2 n2 g2 q2)|((with_reducible show Qs _ _ _ _ _);refine ai _ _ _ _ ?_)|simp(disch:=omega)only[↓aa,ab,simprocAttr,sa,wrap_u64,shift_shr, *])
   all_goals try omega
   all_goals(refine hQ _ _ _ ?_ ⟨h,rfl,?_,?_,?_,?_,⟨by omega,by omega⟩⟩<;>exact aJ)
  ·repeat'(first|refine ak (fun _=>?_) (fun _=>?_)|((with_reducible show Qs _ _ _ _ _);refine ai _ _ _ _ ?_)|simp(disch:=omega)only[↓aa,ab,simprocAttr,sa, *])
   all_goals try omega
   refine bP H [0,10,13] (fun T2 H2 u2 k2 n2 l2 g2=>?_) aj
   try simp(disch:=omega)only[sm,sl]at n2 l2 g2
   simp only[sq,simprocAttr]at u2
   refine bL kq (fun nn T X=>nn=0∧(T.get 13=some (.int .i64 a))∧(T.get 0=T2.get 0∧T.get 10=T2.get 10)∧Ko H2 X∧X.lo=H2.lo∧(True)) ?_ ?_
   ·refine⟨_,rfl,?_,?_,Ko.refl _,rfl,trivial⟩<;>exact aJ
   rintro nn vU X2 ⟨rfl,m2,w2,pL,Ox,_⟩ Qs hQ aG ai
   have gk:=k2.trans pL;have yU:=pL.ag;have Oy:=pL.objs
   have a1:((m:Int)-1)=a:=by omega
   repeat'(first|refine ak (fun _=>?_) (fun _=>?_)|refine aw 11 [Fx,Fx,Fx,Fx,Fx,Fx,Fx,Fx,Fx,Fx,Fx,Fx,Fx,Fx,Fx,Fx,Fx,Fx] ?_|((with_reducible show Qs _ _ _ _ _);refine ai _ _ _ _ ?_)|simp(disch:=omega)only[↓aa,ab,simprocAttr,sa, *])
   all_goals first
    |exact xW
    |omega
 case succ.refine_2.refine_1=>
  refine bP H [0,2,4,14,15] (fun T1 H1 u1 k1 n1 l1 g1=>?_) aj
  try simp(disch:=omega)only[sm,sl]at n1 l1 g1
  simp only[sq,simprocAttr]at u1
  refine bL kq (fun nn T X=>∃ i:Nat,nn=m-i∧(T.get 14=some (.int .i64 i)∧T.get 15=some (.int .i64 m))∧(T.get 0=T1.get 0∧T.get 2=T1.get 2∧T.get 4=T1.get 4)∧Ko H1 X∧X.lo=H1.lo∧(a≤i∧i≤m)) ?_ ?_
  ·refine⟨_,a,rfl,?_,?_,Ko.refl _,rfl,⟨by omega,by omega⟩⟩<;>exact aJ
  rintro nn dA X1 ⟨i,rfl,m1,w1,kx1,eQ,⟨hj,xX⟩⟩ Qs hQ aG ai
  have bz:=k1.trans kx1;have dZ:=kx1.ag;have ed:=kx1.objs
  have e1:=bz.objs r gS
  by_cases hlt:i<m
  ·have hm:i≤(i+m)/2∧(i+m)/2<m:=by omega
   have vY:=BA i m
   generalize (i+m)/2=h at hm vY
   have vZ:=aR h (by omega)
   have BB:=aR m (by omega)
   have a1:=bn (show h<l.length by omega)
   have a2:=bn (show m<l.length by omega)
   have fC:=(ED hr (show h<m by omega) (by omega)).1
   repeat'(first|refine ak (fun _=>?_) (fun _=>?_)|refine aw 17 [Fx,Fx,Fx,Fx,Fx,Fx,Fx,Fx,Fx,Fx,Fx,Fx] ?_|((with_reducible show af _ _ _ _ _);refine ao H1 (Bt _ ah l[m] l[h]) ?_;intro H2 k2 l2 n2 g2 q2;try simp(disch:=omega)only[sm,sl]at l2 n2 g2 q2)|((with_reducible show Qs _ _ _ _ _);refine ai _ _ _ _ ?_)|simp(disch:=omega)only[↓aa,ab,simprocAttr,sa,wrap_u64,shift_shr, *])
   all_goals try omega
   all_goals(refine hQ _ _ _ ?_ ⟨h+1,rfl,?_,?_,?_,?_,⟨by omega,by omega⟩⟩<;>exact aJ)
  ·repeat'(first|refine ak (fun _=>?_) (fun _=>?_)|((with_reducible show Qs _ _ _ _ _);refine ai _ _ _ _ ?_)|simp(disch:=omega)only[↓aa,ab,simprocAttr,sa, *])
   all_goals try omega
   refine bP H [0,14,17] (fun T2 H2 u2 k2 n2 l2 g2=>?_) aj
   try simp(disch:=omega)only[sm,sl]at n2 l2 g2
   simp only[sq,simprocAttr]at u2
   refine bL kq (fun nn T X=>nn=0∧(T.get 17=some (.int .i64 m))∧(T.get 0=T2.get 0∧T.get 14=T2.get 14)∧Ko H2 X∧X.lo=H2.lo∧(True)) ?_ ?_
   ·refine⟨_,rfl,?_,?_,Ko.refl _,rfl,trivial⟩<;>exact aJ
   rintro nn vU X2 ⟨rfl,m2,w2,pL,Ox,_⟩ Qs hQ aG ai
   have gk:=k2.trans pL;have yU:=pL.ag;have Oy:=pL.objs
   repeat'(first|((with_reducible show Qs _ _ _ _ _);refine ai _ _ _ _ ?_)|simp(disch:=omega)only[↓aa,ab,simprocAttr,sa, *])
   all_goals first
    |exact xW
    |omega
 all_goals
  generalize hM:(a+b)/2=M at zbg⊢
  have yZ:a<M∧M<b:=by omega
 case succ.refine_2.refine_2.refine_1=>
  have z1:(M:Int)+m-b=(M+m-b:Nat):=by omega
  refine bP H [0,1,2,3,4,18,19,20,21,22] (fun T1 H1 u1 k1 n1 l1 g1=>?_) aj
  try simp(disch:=omega)only[sm,sl]at n1 l1 g1
  simp only[sq,simprocAttr]at u1
  refine bL kq (fun nn T X=>∃ s:Nat,nn=M-s∧(T.get 20=some (.int .i64 s)∧T.get 21=some (.int .i64 M))∧(T.get 0=T1.get 0∧T.get 1=T1.get 1∧T.get 2=T1.get 2∧T.get 3=T1.get 3∧T.get 4=T1.get 4∧T.get 18=T1.get 18∧T.get 19=T1.get 19∧T.get 22=T1.get 22)∧Ko H1 X∧X.lo=H1.lo∧(M+m-b≤s∧s≤M)) ?_ ?_
  ·refine⟨_,M+m-b,rfl,?_,?_,Ko.refl _,rfl,⟨by omega,by omega⟩⟩<;>exact aJ
  rintro nn dA X1 ⟨s,rfl,m1,w1,kx1,eQ,⟨hj,xX⟩⟩ Qs hQ aG ai
  have bz:=k1.trans kx1;have dZ:=kx1.ag;have ed:=kx1.objs
  have e1:=bz.objs r gS
  by_cases hlt:s<M
  ·have hm:s≤(s+M)/2∧(s+M)/2<M:=by omega
   have vY:=BA s M
   generalize (s+M)/2=c at hm vY
   have z2:(M:Int)+m-1-c=(M+m-1-c:Nat):=by omega
   have hz:c<M+m-1-c∧M+m-1-c<b:=by omega
   generalize M+m-1-c=p at z2 hz
   have vZ:=aR p (by omega)
   have BB:=aR c (by omega)
   have a1:=bn (show p<l.length by omega)
   have a2:=bn (show c<l.length by omega)
   have fC:=(ED hr (show c<p by omega) (by omega)).1
   repeat'(first|refine ak (fun _=>?_) (fun _=>?_)|refine aw 35 [Fx,Fx,Fx,Fx,Fx,Fx,Fx,Fx,Fx,Fx,Fx,Fx,Fx,Fx] ?_|((with_reducible show af _ _ _ _ _);refine ao H1 (Bt _ ah l[p] l[c]) ?_;intro H2 k2 l2 n2 g2 q2;try simp(disch:=omega)only[sm,sl]at l2 n2 g2 q2)|((with_reducible show Qs _ _ _ _ _);refine ai _ _ _ _ ?_)|simp(disch:=omega)only[↓aa,ab,simprocAttr,sa,wrap_u64,shift_shr, *])
   all_goals try omega
   all_goals(refine hQ _ _ _ ?_ ⟨c+1,rfl,?_,?_,?_,?_,⟨by omega,by omega⟩⟩<;>exact aJ)
  ·obtain rfl:s=M:=by omega
   have z3:(s:Int)+m-s=m:=by omega
   repeat'(first|refine ak (fun _=>?_) (fun _=>?_)|((with_reducible show af _ _ _ _ _);refine ao H (ih _ ah _ l (ij.ext bD.mono (Ko.ext aj)) hr s m b (by omega) (by omega) me hb hl) ?_;intro H2 k2 l2 n2 g2 q2;try simp(disch:=omega)only[sm,sl]at l2 n2 g2 q2)|((with_reducible show Qs _ _ _ _ _);refine ai _ _ _ _ ?_)|simp(disch:=omega)only[↓aa,ab,simprocAttr,sa, *])
   all_goals first
    |exact xW
    |omega
 case succ.refine_2.refine_2.refine_2=>
  refine bP H [0,1,2,3,4,18,19,20,21,22] (fun T1 H1 u1 k1 n1 l1 g1=>?_) aj
  try simp(disch:=omega)only[sm,sl]at n1 l1 g1
  simp only[sq,simprocAttr]at u1
  refine bL kq (fun nn T X=>∃ s:Nat,nn=m-s∧(T.get 20=some (.int .i64 s)∧T.get 21=some (.int .i64 m))∧(T.get 0=T1.get 0∧T.get 1=T1.get 1∧T.get 2=T1.get 2∧T.get 3=T1.get 3∧T.get 4=T1.get 4∧T.get 18=T1.get 18∧T.get 19=T1.get 19∧T.get 22=T1.get 22)∧Ko H1 X∧X.lo=H1.lo∧(a≤s∧s≤m)) ?_ ?_
  ·refine⟨_,a,rfl,?_,?_,Ko.refl _,rfl,⟨by omega,by omega⟩⟩<;>exact aJ
  rintro nn dA X1 ⟨s,rfl,m1,w1,kx1,eQ,⟨hj,xX⟩⟩ Qs hQ aG ai
  have bz:=k1.trans kx1;have dZ:=kx1.ag;have ed:=kx1.objs
  have e1:=bz.objs r gS
  by_cases hlt:s<m
  ·have hm:s≤(s+m)/2∧(s+m)/2<m:=by omega
   have vY:=BA s m
   generalize (s+m)/2=c at hm vY
   have z2:(M:Int)+m-1-c=(M+m-1-c:Nat):=by omega
   have hz:c<M+m-1-c∧M+m-1-c<b:=by omega
   generalize M+m-1-c=p at z2 hz
   have vZ:=aR p (by omega)
   have BB:=aR c (by omega)
   have a1:=bn (show p<l.length by omega)
   have a2:=bn (show c<l.length by omega)
   have fC:=(ED hr (show c<p by omega) (by omega)).1
   repeat'(first|refine ak (fun _=>?_) (fun _=>?_)|refine aw 35 [Fx,Fx,Fx,Fx,Fx,Fx,Fx,Fx,Fx,Fx,Fx,Fx,Fx,Fx] ?_|((with_reducible show af _ _ _ _ _);refine ao H1 (Bt _ ah l[p] l[c]) ?_;intro H2 k2 l2 n2 g2 q2;try simp(disch:=omega)only[sm,sl]at l2 n2 g2 q2)|((with_reducible show Qs _ _ _ _ _);refine ai _ _ _ _ ?_)|simp(disch:=omega)only[↓aa,ab,simprocAttr,sa,wrap_u64,shift_shr, *])
   all_goals try omega
   all_goals(refine hQ _ _ _ ?_ ⟨c+1,rfl,?_,?_,?_,?_,⟨by omega,by omega⟩⟩<;>exact aJ)
  ·obtain rfl:s=m:=by omega
   have z3:(M:Int)+s-s=M:=by omega
   repeat'(first|refine ak (fun _=>?_) (fun _=>?_)|((with_reducible show af _ _ _ _ _);refine ao H (ih _ ah _ l (ij.ext bD.mono (Ko.ext aj)) hr a s M (by omega) OK (by omega) (by omega) hl) ?_;intro H2 k2 l2 n2 g2 q2;try simp(disch:=omega)only[sm,sl]at l2 n2 g2 q2)|((with_reducible show Qs _ _ _ _ _);refine ai _ _ _ _ ?_)|simp(disch:=omega)only[↓aa,ab,simprocAttr,sa, *])
   all_goals first
    |exact xW
    |omega
end Go.AM
