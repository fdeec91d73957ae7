/-
  Walks over letters of the functions that the law reaches; written small by a program of mine.
-/
import Derived.Test.YtjgppeeplkidpaaGreatGJO
import Derived.Test.YtjgppeeplkidpaaGreatGYK
import Derived.Test.YtjgppeeplkidpaaGreatGC13
import Derived.Test.YtjgppeeplkidpaaGreatAMd
set_option linter.unusedVariables false
set_option linter.unusedSectionVars false
namespace Go.AM
attribute [local instance] fnMaps
open Go Go.Proofs
set_option maxRecDepth 100000
set_option maxHeartbeats 4000000
set_option linter.unusedSimpArgs false
theorem zcC(H:Heap)(aj:H.lo≤H.next){s:St}{w t f zl:Value}(hS:Sx H s w t f zl)(k:Wk4)(y:Int):af E (aC 13) [df s w t f zl,workV k y] H fun r H'=>r= .bool (xo s k y)∧aq H H':=by
 have c1:=fun(X:Heap) (hx:X.lo≤X.next) (q:Ko H X)=>I5 X hx (hS.ko q)
 have c2:=fun(X:Heap) (hx:X.lo≤X.next) (q:Ko H X)=>Qk X hx (hS.ko q)
 have iW:=hS.lx
 have lj:=hS.tl;have ft:=hS.sl
 obtain⟨⟨wa,wc,rfl,_⟩,_⟩:=hS.st.w
 obtain⟨⟨ta,tc,rfl,_⟩,_⟩:=hS.st.t
 obtain⟨⟨fa,fc,rfl,_⟩,_⟩:=hS.st.f
 obtain⟨⟨za,zc,rfl,_⟩,_⟩:=hS.st.sl
 clear hS
 unfold df at c1 c2
 refine aQ Tryz.f13 ?_
 simp only[Tryz.f13]
 unfold df workV
 unfold xo
 by_cases h0:ef s=0
 ·obtain⟨n1,n2,n3,n4,n5,n6,n7,n8⟩:=(iW h0).bd
  have d0:decide (ef s=0)=true:=wz h0
  have hv:gD s= .tuple #[workV (eL s) 0,.int .i64 0]:=by unfold gD;rw[wF h0]
  have hm:kK s= .tuple #[.int .i64 (mA s),.int .i64 0]:=by unfold kK;rw[wF h0]
  rw[hv]at c1
  rw[hm]at c2
  unfold workV at c1
  have gV:0≤mA s∧mA s≤100000000:=by unfold mA;omega
  generalize eL s=N at*
  generalize mA s=M at*
  clear iW hv hm h0
  by_cases hy:0≤y∧y≤M
  ·have dy:decide (0≤y∧y≤M)=true:=wz hy
   have yL:=fun x y=>Pt x y k N
   repeat'(first|(apply ao<;>intro)|apply bQ|((with_reducible show af _ _ _ _ _);(first|refine ak H (c1 _ ah bL) ?_|refine ak H (c2 _ ah bL) ?_);intro H2 k2 l2 n2 g2 q2;try simp(disch:=omega)only[sm,sl,sI]at l2 n2 g2 q2)|simp(disch:=omega)only[↓aa,ab,simprocAttr,sa,sI, *])
   all_goals try omega
   all_goals first|exact Ko.same bL (by simp(disch:=omega)only[sm,sl,sI];omega)|exact⟨rfl,Ko.same bL (by simp(disch:=omega)only[sm,sl,sI];omega)⟩|trace_state
  ·have dy:decide (0≤y∧y≤M)=false:=wx hy
   repeat'(first|(apply ao<;>intro)|apply bQ|((with_reducible show af _ _ _ _ _);(first|refine ak H (c1 _ ah bL) ?_|refine ak H (c2 _ ah bL) ?_);intro H2 k2 l2 n2 g2 q2;try simp(disch:=omega)only[sm,sl,sI]at l2 n2 g2 q2)|simp(disch:=omega)only[↓aa,ab,simprocAttr,sa,sI, *])
   all_goals exact cf
 ·have d0:decide (ef s=0)=false:=wx h0
  have hv:gD s= .tuple #[workV ⟨0,0,0,0⟩ 0,.int .i64 4]:=by unfold gD;rw[wI h0]
  have hm:kK s= .tuple #[.int .i64 0,.int .i64 4]:=by unfold kK;rw[wI h0]
  rw[hv]at c1
  rw[hm]at c2
  unfold workV at c1
  clear iW hv hm
  repeat'(first|((with_reducible show af _ _ _ _ _);(first|refine ak H (c1 _ ah bL) ?_|refine ak H (c2 _ ah bL) ?_);intro H2 k2 l2 n2 g2 q2;try simp(disch:=omega)only[sm,sl,sI]at l2 n2 g2 q2)|simp(disch:=omega)only[↓aa,ab,simprocAttr,sa,sI, *])
  all_goals exact cf
theorem zcD(H:Heap)(aj:H.lo≤H.next){s:St}{w t f zl:Value}(hS:Sx H s w t f zl):af E (aC 10) [df s w t f zl] H fun r H'=>r=kK s∧aq H H':=by
 have c1:=fun(X:Heap) (hx:X.lo≤X.next) (q:Ko H X)=>IB X hx (hS.ko q)
 have c2:=fun(X:Heap) (hx:X.lo≤X.next) (q:Ko H X) (k:Wk4) (y:Int)=>Qj X hx (hS.ko q) k y
 have iW:=hS.lx
 have lj:=hS.tl;have ft:=hS.sl
 obtain⟨⟨wa,wc,rfl,_⟩,_⟩:=hS.st.w
 obtain⟨⟨ta,tc,rfl,_⟩,_⟩:=hS.st.t
 obtain⟨⟨fa,fc,rfl,_⟩,_⟩:=hS.st.f
 obtain⟨⟨za,zc,rfl,_⟩,_⟩:=hS.st.sl
 clear hS
 unfold df at c1 c2
 refine aQ Tryz.f10 ?_
 simp only[Tryz.f10]
 unfold df
 by_cases h0:ef s=0
 ·obtain⟨n1,n2,n3,n4,n5,n6,n7,n8⟩:=(iW h0).bd
  have hv:gD s= .tuple #[workV (eL s) 0,.int .i64 0]:=by unfold gD;rw[wF h0]
  have hm:kK s= .tuple #[.int .i64 (mA s),.int .i64 0]:=by unfold kK;rw[wF h0]
  have hr:∀ y,xo s (eL s) y=decide (0≤y∧y≤mA s):=fun y=>by
   unfold xo
   rw[wz h0,wz rfl];rfl
  have c3:=fun X hx q y=>c2 X hx q (eL s) y
  rw[hv]at c1
  rw[hm]
  simp only[hr]at c3
  unfold workV at c1 c3
  have gV:0≤mA s∧mA s≤100000000:=by unfold mA;omega
  generalize eL s=N at*
  generalize mA s=M at*
  clear iW hv hm h0 hr c2
  repeat'(first|((with_reducible show af _ _ _ _ _);refine ak H (c1 _ ah bL) ?_;intro H2 k2 l2 n2 g2 q2;try simp(disch:=omega)only[sm,sl,sI]at l2 n2 g2 q2)|simp(disch:=omega)only[↓aa,ab,simprocAttr,sa,sI, *])
  all_goals try omega
  have x1:=g2 H.next (by omega)
  simp(disch:=omega)only[aA,aM,aB,aJ,aH,aI,aN,aO,aR,aP,aL,aE,aK,au,sl]at x1
  rename Heap=>B
  have kB:=k2;have lB:=l2;have nB:=n2
  clear c1 g2 q2 k2 l2 n2
  refine bC B [1,4,6,7] (fun T5 H5 u5 j5 n5 l5 g5=>?_) bL
  try simp(disch:=omega)only[sm,sl,sI]at n5 l5 g5
  simp only[sq,simprocAttr]at u5
  refine bt kq (fun nn T X=>∃ (lo hi y:Int),nn=(hi-lo).toNat∧(T.get 6=some (.int .i64 lo)∧T.get 7=some (.int .i64 hi))∧(T.get 1=T5.get 1∧T.get 4=T5.get 4)∧True∧True∧(0≤lo∧lo≤M∧M≤hi∧hi≤1099511627776∧X.objs.get B.next=some (.row [.int .i64 N.a,.int .i64 N.b,.int .i64 N.c,.int .i64 N.d,.int .i64 y] none true)∧B.next<X.next∧Ko B X∧X.lo=B.lo)) ?_ ?_
  ·have b1:=g5 B.next
   rw[cB rfl,wai]at b1
   refine⟨_,0,1099511627776,0,rfl,?_,?_,trivial,trivial,by omega,by omega,by omega,by omega,b1,by omega,j5,l5⟩<;>exact ay
  rintro nn iB X5 ⟨lo,hi,y,rfl,m5,w5,_,_,h1,h2,h3,h4,hb,hq,fM,Eg⟩ Qs hQ aD ai
  have nX5:=fM.ag
  have k6:=kB.trans fM
  have e1:=(fM.objs H.next (by omega)).trans x1
  by_cases hlt:lo<hi
  ·have OV:(lo+hi+1).tdiv 2=(lo+hi+1)/2:=Int.tdiv_eq_ediv_of_nonneg (by omega)
   have hk:Ko H (X5.setRow B.next [.int .i64 N.a,.int .i64 N.b,.int .i64 N.c,.int .i64 N.d,.int .i64 ((lo+hi+1)/2)]):=bL
   have c4:=c3 _ (by simp(disch:=omega)only[sm,sl,sI];omega) hk ((lo+hi+1)/2)
   by_cases hM:(lo+hi+1)/2≤M
   ·have dm:decide (0≤(lo+hi+1)/2∧(lo+hi+1)/2≤M)=true:=wz (by omega)
    rw[dm]at c4
    clear dm
    simp(disch:=omega)only[↓aa,ab,simprocAttr,sa,sI, *]
    all_goals try omega
    refine af.mono c4 ?_
    rintro _ Z ⟨rfl,sZ⟩
    have z1:=sZ.objs B.next (by simp(disch:=omega)only[sm,sl,sI];omega)
    have zl:=sZ.lo;have zn:=sZ.ag
    simp(disch:=omega)only[sm,sl,sI]at z1 zl zn
    have kZ:Ko B Z:=Ko.call bL sZ
    clear c4 sZ
    simp(disch:=omega)only[↓aa,ab,simprocAttr,sa,sI, *]
    all_goals try omega
    refine hQ _ _ _ ?_ ⟨(lo+hi+1)/2,hi,(lo+hi+1)/2,rfl,?_,?_,trivial,trivial,by omega,by omega,by omega,by omega,z1,by omega,kZ,by omega⟩<;>exact ay
   ·have dm:decide (0≤(lo+hi+1)/2∧(lo+hi+1)/2≤M)=false:=wx (by omega)
    rw[dm]at c4
    clear dm
    simp(disch:=omega)only[↓aa,ab,simprocAttr,sa,sI, *]
    all_goals try omega
    refine af.mono c4 ?_
    rintro _ Z ⟨rfl,sZ⟩
    have z1:=sZ.objs B.next (by simp(disch:=omega)only[sm,sl,sI];omega)
    have zl:=sZ.lo;have zn:=sZ.ag
    simp(disch:=omega)only[sm,sl,sI]at z1 zl zn
    have kZ:Ko B Z:=Ko.call bL sZ
    clear c4 sZ
    simp(disch:=omega)only[↓aa,ab,simprocAttr,sa,sI, *]
    all_goals try omega
    refine hQ _ _ _ ?_ ⟨lo,(lo+hi+1)/2-1,(lo+hi+1)/2,rfl,?_,?_,trivial,trivial,by omega,by omega,by omega,by omega,z1,by omega,kZ,by omega⟩<;>exact ay
  ·have eM:lo=M:=by omega
   subst eM
   clear c3
   repeat'(first|((with_reducible show Qs _ _ _ _ _);refine ai _ _ _ _ ?_)|simp(disch:=omega)only[↓aa,ab,simprocAttr,sa,sI, *])
   all_goals try omega
   all_goals first|exact(k6.trans bL).same (by omega)|exact⟨rfl,k6.same (by omega)⟩|trace_state
 ·have hv:gD s= .tuple #[workV ⟨0,0,0,0⟩ 0,.int .i64 4]:=by unfold gD;rw[wI h0]
  have hm:kK s= .tuple #[.int .i64 0,.int .i64 4]:=by unfold kK;rw[wI h0]
  rw[hv]at c1
  rw[hm]
  unfold workV at c1
  clear iW hv hm c2
  repeat'(first|((with_reducible show af _ _ _ _ _);refine ak H (c1 _ ah bL) ?_;intro H2 k2 l2 n2 g2 q2;try simp(disch:=omega)only[sm,sl,sI]at l2 n2 g2 q2)|simp(disch:=omega)only[↓aa,ab,simprocAttr,sa,sI, *])
  all_goals exact cf
def nD(s:St):Prop:=400<s.words.length∨60<s.table.length∨60<s.free.length∨100<s.bj.length
instance(s:St):Decidable (nD s):=by unfold nD;infer_instance
theorem zcE(H:Heap)(aj:H.lo≤H.next){s:St}{w t f zl:Value}(hS:iQ H s w t f zl):af E (aC 6) [df s w t f zl] H fun r H'=>r= .bool (decide (nD s))∧aq H H':=by
 obtain⟨⟨wa,wc,rfl,_⟩,_⟩:=hS.w
 obtain⟨⟨ta,tc,rfl,_⟩,_⟩:=hS.t
 obtain⟨⟨fa,fc,rfl,_⟩,_⟩:=hS.f
 obtain⟨⟨jS,sc,rfl,_⟩,_⟩:=hS.sl
 refine aQ Tryz.f6 ?_
 simp only[Tryz.f6]
 simp only[df]
 by_cases c1:400<s.words.length
 ·repeat'(first|(apply ao<;>intro)|apply bQ|simp(disch:=omega)only[↓aa,ab,simprocAttr,sa, *])
  all_goals((with_reducible show _∧_);exact⟨fe (by simp only[wT,wG,wbh,wa5,nD];first|omega|(simp[*]<;>omega)),aF⟩)
 ·by_cases c2:60<s.table.length
  ·repeat'(first|(apply ao<;>intro)|apply bQ|simp(disch:=omega)only[↓aa,ab,simprocAttr,sa, *])
   all_goals((with_reducible show _∧_);exact⟨fe (by simp only[wT,wG,wbh,wa5,nD];first|omega|(simp[*]<;>omega)),aF⟩)
  ·by_cases c3:60<s.free.length
   ·repeat'(first|(apply ao<;>intro)|apply bQ|simp(disch:=omega)only[↓aa,ab,simprocAttr,sa, *])
    all_goals((with_reducible show _∧_);exact⟨fe (by simp only[wT,wG,wbh,wa5,nD];first|omega|(simp[*]<;>omega)),aF⟩)
   ·repeat'(first|(apply ao<;>intro)|apply bQ|simp(disch:=omega)only[↓aa,ab,simprocAttr,sa, *])
    all_goals((with_reducible show _∧_);exact⟨fe (by simp only[wT,wG,wbh,wa5,nD];first|omega|(simp[*]<;>omega)),aF⟩)
def StP(H:Heap)(v:Value)(s:St):Prop:=∃ w t f zl,v=df s w t f zl∧iQ H s w t f zl∧(∀x∈s.words,x<2^64)∧(∀x∈s.bj,x.word<2^64)∧ -9223372036854775808≤s.top∧s.top≤9223372036854775807
def I8(H:Heap):Prop:=∀ r cells g t,H.objs.get r=some (.row cells g t)→g=none∨cells=[]
theorem zcF{H:Heap}{v:Value}{ws:List Nat}(h:I8 H)(hv:aZ RW 1 H v ws)(h0:ws≠[]):Gz 1 H v:=by
 obtain⟨⟨a,c,rfl,_,hl⟩,_⟩:=hv
 intro a' n c' e cells g t aG
 simp only[waq]at e
 obtain⟨rfl,_,_⟩:=e
 obtain⟨r,o,cells',g',t',part,ha,_,kF,a8,_⟩:=hl 0 (ws[0]'(wcS.2 h0)) (wj (wcS.2 h0))
 cases ha
 rw[aG]at kF
 cases kF
 rcases h _ _ _ _ aG with q|q
 ·exact .inl q
 ·subst q
  rw[dB]at a8
  split at a8
  ·rename_i hh;simp at hh
  ·cases a8
theorem fn3:E.fn.get 3=some Tryz.f3:=kq
theorem Ql(H:Heap):af E (aC 7) [] H fun v H'=>v= .bool true∧aq H H':=⟨0,.bool true,H,by kernel_rfl,rfl,aq.refl H⟩
theorem bound_law(H:Heap)(aj:H.lo≤H.next)(hH:I8 H){v1:Value}{s:St}(hs:StP H v1 s)(k:Wk4)(y:Int):
  af E (aC 3) [v1,workV k y] H fun v _=>v= .bool true:=by
 obtain⟨w,t,f,zl,rfl,hS,kz,me,hs3,hs4⟩:=hs
 have I9:=fun(X:Heap) (hx:X.lo≤X.next) (q:Ko H X)=>zcE X hx (hS.ko q)
 have zcG:∃ wa wc ta tc fa fc za zc,w= .slice wa s.words.length wc∧t= .slice ta s.table.length tc∧f= .slice fa s.free.length fc∧zl= .slice za s.bj.length zc:=by
  obtain⟨⟨wa,wc,rfl,_⟩,_⟩:=hS.w
  obtain⟨⟨ta,tc,rfl,_⟩,_⟩:=hS.t
  obtain⟨⟨fa,fc,rfl,_⟩,_⟩:=hS.f
  obtain⟨⟨za,zc,rfl,_⟩,_⟩:=hS.sl
  exact⟨_,_,_,_,_,_,_,_,rfl,rfl,rfl,rfl⟩
 obtain⟨wa,wc,ta,tc,fa,fc,za,zc,rfl,rfl,rfl,rfl⟩:=zcG
 refine aQ Tryz.f3 ?_
 simp only[Tryz.f3]
 unfold df at I9⊢
 unfold workV
 by_cases hL:nD s
 ·have dL:decide (nD s)=true:=wz hL
  clear hS hL
  repeat'(first|((with_reducible show af _ _ _ _ _);(first|refine ak H (Ql _) ?_|refine ak H (I9 _ ah aw) ?_);intro H2 k2 l2 n2 g2 q2;try simp(disch:=omega)only[sm,sl]at l2 n2 g2 q2)|simp(disch:=omega)only[↓aa,ab,simprocAttr,sa, *])
  all_goals try omega
  all_goals trace_state
 ·have dL:decide (nD s)=false:=wx hL
  have cx:sE s:=⟨kz,me,by unfold nD at hL;omega⟩
  have hX:Sx H s _ _ _ _:=⟨hS,zcF hH hS.w,cx,by unfold nD at hL;omega,by unfold nD at hL;omega,by unfold nD at hL;omega,⟨hs3,hs4⟩⟩
  have c1:=fun(X:Heap) (hx:X.lo≤X.next) (q:Ko H X)=>IB X hx (hX.ko q)
  have c2:=fun(X:Heap) (hx:X.lo≤X.next) (q:Ko H X)=>I5 X hx (hX.ko q)
  have c3:=fun(X:Heap) (hx:X.lo≤X.next) (q:Ko H X)=>zcD X hx (hX.ko q)
  have c4:=fun(X:Heap) (hx:X.lo≤X.next) (q:Ko H X)=>Qk X hx (hX.ko q)
  have c5:=fun(X:Heap) (hx:X.lo≤X.next) (q:Ko H X)=>Qj X hx (hX.ko q) k y
  have c6:=fun(X:Heap) (hx:X.lo≤X.next) (q:Ko H X)=>zcC X hx (hX.ko q) k y
  clear hS hL hX cx
  unfold df at c1 c2 c3 c4 c5 c6
  unfold workV at c5 c6
  obtain⟨N,e,M,e2,hv,hm⟩:∃ (N:Wk4) (e M e2:Int),gD s= .tuple #[workV N 0,.int .i64 e]∧kK s= .tuple #[.int .i64 M,.int .i64 e2]:=by
   by_cases h0:ef s=0
   ·exact⟨_,_,_,_,by unfold gD;rw[wF h0],by unfold kK;rw[wF h0]⟩
   ·exact⟨_,_,_,_,by unfold gD;rw[wI h0],by unfold kK;rw[wI h0]⟩
  rw[hv]at c1 c2
  rw[hm]at c3 c4
  unfold workV at c1 c2
  generalize xo s k y=R at*
  clear hv hm
  have yL:=fun x y=>Pt x y N N
  have dN:decide (N=N)=true:=wz rfl
  cases R
  all_goals repeat'(first|refine az 7 [Fx,Fx,Fx,Fx,Fx,Fx,Fx,Fx,Fx,Fx,Fx,Fx,Fx,Fx,Fx,Fx,Fx,Fx,Fx,Fx,Fx,Tx,Fx,Fx,Fx,Fx,Fx,Fx,Fx,Fx,Fx] ?_|((with_reducible show af _ _ _ _ _);(first|refine ak H (Ql _) ?_|refine ak H (I9 _ ah aw) ?_|refine ak H (c1 _ ah aw) ?_|refine ak H (c2 _ ah aw) ?_|refine ak H (c3 _ ah aw) ?_|refine ak H (c4 _ ah aw) ?_|refine ak H (c5 _ ah aw) ?_|refine ak H (c6 _ ah aw) ?_);intro H2 k2 l2 n2 g2 q2;try simp(disch:=omega)only[sm,sl]at l2 n2 g2 q2)|simp(disch:=omega)only[↓aa,ab,simprocAttr,sa, *])
  all_goals try omega
  all_goals trace_state
theorem SL.sub{α:Type}{R S:Heap→List Value→α→Prop}{z:Nat}{H:Heap}{v:Value}{l:List α}(h:SL R z H v l)(hs:∀ p x,R H p x→S H p x):SL S z H v l:=by
 obtain⟨a,c,e,hl,h⟩:=h
 refine⟨a,c,e,hl,fun i x hi=>?_⟩
 obtain⟨r,o,cells,g,t,part,h1,h2,h3,h4,h5⟩:=h i x hi
 exact⟨r,o,cells,g,t,part,h1,h2,h3,h4,hs _ _ h5⟩
theorem SL.all{α:Type}{R:Heap→List Value→α→Prop}{Q:α→Prop}{z:Nat}{H:Heap}{v:Value}{l:List α}(h:SL R z H v l)(hq:∀ p x,R H p x→Q x):∀ x∈l,Q x:=by
 obtain⟨a,c,e,hl,h⟩:=h
 intro x hx
 obtain⟨i,hi⟩:=wbx.1 hx
 obtain⟨r,o,cells,g,t,part,h1,h2,h3,h4,h5⟩:=h i x hi
 exact hq _ _ h5
theorem Qm{n:Int}(h:(Lit.int .u64 n).wf=true):∃ k:Nat,n=k∧k<2^64:=by
 have h':0≤n∧n≤18446744073709551615:=by simpa[Lit.wf,IntKind.min,IntKind.max,IntKind.bits,IntKind.signed]using h
 exact⟨n.toNat,by omega,by omega⟩
def Qn:Heap→List Value→Nat→Prop:=fun _ part n=>part=[wV n]∧n<2^64
def Qo:Heap→List Value→Slot→Prop:=fun _ part x=>part=uw x∧x.word<2^64
section
variable{Hd:Type}{enc:TypeId×Value→Hd}{w:World}{base:Nat}{held:Bool}
theorem zcH:zy enc Tryz.prog w base held 56 Qn:=by
 intro eP cs y h
 obtain⟨n,rfl,_,hw⟩:=wcB Tryz.underlying56 h
 obtain⟨k,rfl,hk⟩:=Qm hw
 exact⟨fun v hv=>by simp at hv;subst hv;rfl,k,rfl,hk⟩
theorem Qp:zy enc Tryz.prog w base held 85 bD:=by
 intro eP cs y h
 obtain⟨h1,x,h2,h3⟩:=KT (w:=w) (n:=5) (t:=85) (ks:=[some .i64,some .i64]) kq eP cs y h
 match x,h3 with
 |[a,b],⟨⟨x,ha⟩,⟨y,hb⟩,_⟩=>exact⟨h1,⟨x,y⟩,by rw[bD,h2,ha,hb]⟩
theorem zcI{P:Program}{t:TypeId}(ht:P.underlying t=some .bool){eP:Nat}{v:Value}{y:DataW Hd×List MemPlace}(h:DataW.trod enc P w base (fun _=>true) held eP t [v]=some y):∃ n,v= .bool n:=by
 obtain⟨n,e,_⟩:=DataW.trod_bool ht h
 simp only[wbQ,wcl]at e
 exact⟨n,e⟩
theorem zcJ:zy enc Tryz.prog w base held 58 Qo:=by
 intro eP cs y h
 obtain⟨h1,x,h2,h3⟩:=KT (w:=w) (n:=5) (t:=58) (ks:=[none,some .i64,some .u64]) kq eP cs y h
 obtain⟨hl,n,hf⟩:=KQ Tryz.underlying58 h
 rw[show Tryz.prog.cellsOf 58=3 by kernel_rfl]at hl
 match cs,hl,h1,h2,hf with
 |[c0,c1,c2],_,h1,h2,hf=>
  obtain⟨z2,g2⟩:=hf 2 _ rfl
  simp only[show Tryz.prog.cellsOf 56=1 by kernel_rfl,waZ,waV,wch,wcq]at g2
  obtain⟨m,e,_,hw⟩:=wcB Tryz.underlying56 g2
  simp only[wbQ,wcl]at e
  subst e
  obtain⟨k,rfl,hk⟩:=Qm hw
  match x,h3,h2 with
  |[a,b,c],⟨⟨x,ha⟩,⟨y,hb⟩,⟨z,hc⟩,_⟩,h2=>
   have ez:=h2
   simp only[wbk,List.map_nil,wbQ,wcl]at ez
   refine⟨h1,⟨x,y,k⟩,?_,hk⟩
   rw[h2,ha,hb,←ez.2.2]
   rfl
theorem opens_state{r:Reach}{b0:Nat}{v:Value}{d:DataW Hd}{ps:List MemPlace}(hval:Value.okWide Tryz.prog w r b0 28 v)(hd:DataW.Trod enc Tryz.prog w base (fun _=>true) held 28 v d ps):
  ∃cs:List Value,v= .agg cs.toArray∧(∀c∈cs,okV w c=true)∧∃ s,StP (wh w) (.agg (cs.map (trV w)).toArray) s:=by
 have hv:=hval
 obtain⟨cs,rfl,bh⟩:=WideShapes.okWide_struct Tryz.underlying28 hval
 obtain⟨eP,hd⟩:=hd
 obtain⟨hl,n,hf⟩:=KQ Tryz.underlying28 hd
 rw[show Tryz.prog.cellsOf 28=10 by kernel_rfl]at bh hl
 match cs,bh,hf,hv with
 |⟨[c0,c1,c2,c3,c4,c5,c6,c7,c8,c9]⟩,_,hf,hv=>
  obtain⟨z0,h0⟩:=hf 0 _ rfl
  obtain⟨z1,h1⟩:=hf 1 _ rfl
  obtain⟨z2,h2⟩:=hf 2 _ rfl
  obtain⟨z3,h3⟩:=hf 3 _ rfl
  obtain⟨z4,h4⟩:=hf 4 _ rfl
  obtain⟨z5,h5⟩:=hf 5 _ rfl
  obtain⟨z6,h6⟩:=hf 6 _ rfl
  simp only[Value.cells,show Tryz.prog.cellsOf 23=4 by kernel_rfl,show Tryz.prog.cellsOf 4=1 by kernel_rfl,show Tryz.prog.cellsOf 3=1 by kernel_rfl,show Tryz.prog.cellsOf 24=1 by kernel_rfl,show Tryz.prog.cellsOf 25=1 by kernel_rfl,show Tryz.prog.cellsOf 26=1 by kernel_rfl,waZ,waV,wch,wcq]at h0 h1 h2 h3 h4 h5 h6
  unfold Value.okWide at hv
  rw[Tryz.underlying28]at hv
  obtain⟨iI,e,_,ts,ht,_,hc⟩:=hv
  simp only[Value.agg.injEq]at e
  subst e
  rw[show Tryz.prog.cellTypes Tryz.prog.depth 28=some [3,3,3,3,4,24,3,25,25,26] by kernel_rfl]at ht
  simp only[wi]at ht
  subst ht
  obtain⟨u5,e5,k5⟩:=hc 5 c5 rfl
  obtain⟨u7,e7,k7⟩:=hc 7 c7 rfl
  obtain⟨u8,e8,k8⟩:=hc 8 c8 rfl
  obtain⟨u9,e9,k9⟩:=hc 9 c9 rfl
  simp only[wY,waA,Nat.reduceAdd,Nat.reduceMod,wQ,wbo,wi]at e5 e7 e8 e9
  subst e5 e7 e8 e9
  have kc:=zz 5 23 [some .i64,some .i64,some .i64,some .i64] kq _ _ _ h0
  obtain⟨⟨a0,rfl⟩,⟨a1,rfl⟩,⟨a2,rfl⟩,⟨a3,rfl⟩,_⟩:=kc
  obtain⟨b1,rfl⟩:=zcI Tryz.underlying4 h1
  obtain⟨n3,Qq,_,yV⟩:=wcB Tryz.underlying3 h3
  simp only[wbQ,wcl]at Qq
  subst Qq
  have Qr: -9223372036854775808≤n3∧n3≤9223372036854775807:=by simpa[Lit.wf,IntKind.min,IntKind.max,IntKind.bits,IntKind.signed]using yV
  obtain⟨g5,l5,s5⟩:=Co (R:=Qn) (z:=1) Tryz.underlying24 kq (by omega) (fun _=>zcH) h2 (fun a l c e=>by rw[e]at k5;exact Cm Tryz.underlying24 k5)
  obtain⟨g7,l7,s7⟩:=Co (R:=bD) (z:=2) Tryz.underlying25 kq (by omega) (fun _=>Qp) h4 (fun a l c e=>by rw[e]at k7;exact Cm Tryz.underlying25 k7)
  obtain⟨g8,l8,s8⟩:=Co (R:=bD) (z:=2) Tryz.underlying25 kq (by omega) (fun _=>Qp) h5 (fun a l c e=>by rw[e]at k8;exact Cm Tryz.underlying25 k8)
  obtain⟨g9,l9,s9⟩:=Co (R:=Qo) (z:=3) Tryz.underlying26 kq (by omega) (fun _=>zcJ) h6 (fun a l c e=>by rw[e]at k9;exact Cm Tryz.underlying26 k9)
  refine⟨[_,_,_,_,_,_,_,_,_,_],rfl,?_,⟨⟨a0,a1,a2,a3⟩,b1,l5,n3,l7,l8,l9⟩,_,_,_,_,rfl,⟨⟨s5.sub fun _ _ h=>h.1,Cn g5⟩,⟨s7,Cn g7⟩,⟨s8,Cn g8⟩,⟨s9.sub fun _ _ h=>h.1,Cn g9⟩⟩,s5.all fun _ _ h=>h.2,s9.all (fun _ _ h=>h.2),Qr.1,Qr.2⟩
  intro c hc
  simp only[wad,wbb,wck]at hc
  rcases hc with rfl|rfl|rfl|rfl|rfl|rfl|rfl|rfl|rfl|rfl<;>first|rfl|assumption
theorem opens_work{r:Reach}{b0:Nat}{v:Value}{d:DataW Hd}{ps:List MemPlace}(hval:Value.okWide Tryz.prog w r b0 30 v)(hd:DataW.Trod enc Tryz.prog w base (fun _=>true) held 30 v d ps):∃ k y,v=workV k y:=by
 obtain⟨cs,rfl,bh⟩:=WideShapes.okWide_struct Tryz.underlying30 hval
 obtain⟨eP,hd⟩:=hd
 have hk:=zz 5 30 [some .i64,some .i64,some .i64,some .i64,some .i64] kq _ _ _ hd
 rw[show Tryz.prog.cellsOf 30=5 by kernel_rfl]at bh
 match cs,bh,hk with
 |⟨[c0,c1,c2,c3,c4]⟩,_,hk=>
  obtain⟨⟨a0,rfl⟩,⟨a1,rfl⟩,⟨a2,rfl⟩,⟨a3,rfl⟩,⟨a4,rfl⟩,_⟩:=hk
  exact⟨⟨a0,a1,a2,a3⟩,a4,rfl⟩
theorem wh_alone(w:World):I8 (wh w):=by
 intro r cells g t h
 have h':(if r=iF w then some (AObj.row [] (some (0,0)) false)else some (.row (rowAt w (r%w.heap.size) (r/w.heap.size)) none true))=some (.row cells g t):=h
 split at h'
 ·simp only[wi,AObj.row.injEq]at h';exact .inr h'.1.symm
 ·simp only[wi,AObj.row.injEq]at h';exact .inl h'.2.1.symm
end
theorem okV_rels{w:World}:∀ {cs:List Value},(∀c∈cs,okV w c=true)→LRel (wm w) (cs.map (trV w)) cs
 |[],_=> .nil _
 |c::cs,h=> .cons (Kw w (h c (by simp))) (okV_rels fun c hc=>h c (by simp[hc]))
end Go.AM
