/-
  Walks over letters of the functions that the law reaches; written small by a program of mine.
-/
import Derived.Test.YtjgppeeplkidpaaGreatGYK
import Derived.Test.YtjgppeeplkidpaaGreatGV8
import Derived.Test.YtjgppeeplkidpaaGreatGJZ
set_option linter.unusedVariables false
set_option linter.unusedSectionVars false
namespace Go.AM
attribute [local instance] fnMaps
open Go Go.Proofs
set_option maxRecDepth 100000
set_option maxHeartbeats 4000000
set_option linter.unusedSimpArgs false
theorem sU{s:St}{n:Nat}(h:∀ k,k<n→jV s k=true)(hn:jV s n=true):∀ k,k<n+1→jV s k=true:=fun k hk=>by
 by_cases e:k=n
 ·rw[e];exact hn
 ·exact h k (by omega)
theorem sV(s:St){n:Nat}(hn:n<9)(h:∀ k,k<n→jV s k=true)(hb:jV s n=false):ef s=(n:Int)+1:=OX s hn h hb
theorem zhy{l m:List Int}(h:∀ x,x∈l↔x∈m)(p:Int→Bool):l.all p=m.all p:=by
 rw[waU,waC,waC]
 exact⟨fun q x hx=>q x ((h x).2 hx),fun q x hx=>q x ((h x).1 hx)⟩
theorem Rf{l m:List Int}(h:∀ x,x∈l↔x∈m)(w:Nat):fz l w=fz m w:=by
 unfold fz
 cases dS w with
 |none=>rfl
 |some v=>
  show(if v.kind=2 then decide (v.x∈l)else true)=(if v.kind=2 then decide (v.x∈m)else true)
  split
  ·rw[waU,waL,waL];exact h _
  ·rfl
theorem zhz(s:St):jV s 7=(aU s).all (jx s.words (aU s)):=by
 show(gL s).all (jx s.words (gL s))=_
 rw[zhy (mem_keys s)]
 congr 1
 funext p
 unfold jx
 congr 1
 funext k
 exact Rf (mem_keys s) _
theorem zhA(s:St):jV s 8=s.bj.all (iS (aU s)):=by
 show s.bj.all (iS (gL s))=_
 congr 1
 funext x
 unfold iS
 rw[Rf (mem_keys s)]
theorem zhB{s:St}(h:ig s=true):∀ p∈aU s,cF s.words p=0:=fun p hp=>by
 unfold ig at h
 rw[wA]at h
 rcases waI.1 hp with hp|hp
 ·exact(AS s p hp).1
 ·obtain⟨y,hy,rfl⟩:=wbG.1 hp
  have:=waC.1 h.2 y hy
  unfold fB at this
  simp only[wA]at this
  exact wap this.1.1.1
theorem zhC{ws:List Nat}{p:Int}(h:cF ws p=0){k:Nat}(hk:k<(aT ws p).fields.toNat):jt ws p k false=cY ws (p+1+k):=by
 have hf:=kE h
 have hh:=jO hf.2.2.1
 have e1:iO ws p k false=0:=by
  unfold iO
  rw[wF h]
  exact wF ⟨by omega,by show(k:Int)<(aT ws p).fields;omega⟩
 unfold jt kD
 rw[wF e1,wF e1]
 simp
theorem zhD(H:Heap)(aj:H.lo≤H.next){s:St}{w t f zl:Value}(hS:iQ H s w t f zl)(cx:sE s)(hl:s.words.length≤400)(lj:s.table.length≤100)(ri: -9223372036854775808≤s.top∧s.top≤9223372036854775807):af E (aC 47) [df s w t f zl] H fun r H'=>r= .int .i64 (ef s)∧aq H H':=by
 have hu:=cx.words
 have nj:=cx.bj
 have lG:=hS.w
 have ft:=hS.sl
 have cL:=fun(X:Heap) (hx:X.lo≤X.next) (k:Ko H X)=>zgI X hx (hS.ko k) hu (by omega) (by omega)
 have cA:=fun(X:Heap) (hx:X.lo≤X.next) (k:Ko H X)=>QM X hx (hS.ko k) hu (by omega) (by omega) ri
 have cR:=fun(X:Heap) (hx:X.lo≤X.next) (k:Ko H X)=>zgJ X hx zl s.bj (ft.ko ux.mono k).1 nj s.cfg.bj
 have cW:=fun(X:Heap) (hx:X.lo≤X.next) (k:Ko H X)=>QN X hx w s.words (lG.ko RW.mono k) hu (by omega) (s.cfg.dI s.second) s.top ri
 have cH:=fun(X:Heap) (hx:X.lo≤X.next) (k:Ko H X) (x:Int) (hb: -9223372036854775808≤x∧x≤9223372036854775807)=>rn X hx w s.words (lG.ko RW.mono k) hu x hb (by omega)
 obtain⟨⟨wa,wc,rfl,⟨_,Ep⟩,fG⟩,lf⟩:=lG
 obtain⟨⟨ta,tc,rfl,_⟩,_⟩:=hS.t
 obtain⟨⟨fa,fc,rfl,_⟩,_⟩:=hS.f
 obtain⟨⟨za,zc,rfl,⟨_,Rg⟩,yR⟩,kQ⟩:=ft
 clear hS
 unfold df at cL cA
 have A0:∀ k,k<0→jV s k=true:=fun k h=>absurd h (Nat.not_lt_zero k)
 refine aQ Tryz.f47 ?_
 simp only[Tryz.f47]
 unfold df
 by_cases r0:s.cfg.Ok
 case neg=>
  have e:=sV s (by omega) A0 (wx r0)
  have hd:decide s.cfg.Ok=false:=wx r0
  clear r0 A0
  repeat'(first|((with_reducible show af _ _ _ _ _);refine ak H (qb _ ah s.cfg) ?_;intro H2 k2 l2 n2 g2 q2;try simp(disch:=omega)only[sm,sl]at l2 n2 g2 q2)|simp(disch:=omega)only[↓aa,ab,simprocAttr,sa,cD, *])
  all_goals exact cf
 have A1:=sU A0 (wz r0)
 have d0:decide s.cfg.Ok=true:=wz r0
 by_cases r1:(s.words.length:Int)=s.cfg.words
 case neg=>
  have e:=sV s (by omega) A1 (wx r1)
  have hd:decide ((s.words.length:Int)=s.cfg.words)=false:=wx r1
  clear r0 r1 A0 A1
  repeat'(first|refine az 3 [Fx,Fx,Fx,Fx,Fx,Tx,Fx] ?_|((with_reducible show af _ _ _ _ _);(first|refine ak H (qb _ ah s.cfg) ?_|refine ak H (Jd _ ah s.cfg) ?_);intro H2 k2 l2 n2 g2 q2;try simp(disch:=omega)only[sm,sl]at l2 n2 g2 q2)|simp(disch:=omega)only[↓aa,ab,simprocAttr,sa,cD, *])
  all_goals exact cf
 have A2:=sU A1 (wz r1)
 have d1:decide ((s.words.length:Int)=s.cfg.words)=true:=wz r1
 have hfi:=HH s.cfg s.second
 by_cases r2:oi s
 case neg=>
  have e:=sV s (by omega) A2 (wx r2)
  unfold oi at r2
  clear r0 r1 A0 A1 A2
  repeat'(first|refine ao (fun _=>?_) (fun _=>?_)|apply bQ|refine az 3 [Fx,Fx,Fx,Fx,Fx,Tx,Fx] ?_|((with_reducible show af _ _ _ _ _);(first|refine ak H (qb _ ah s.cfg) ?_|refine ak H (Jd _ ah s.cfg) ?_|refine ak H (Je _ ah s.cfg s.second) ?_);intro H2 k2 l2 n2 g2 q2;try simp(disch:=omega)only[sm,sl]at l2 n2 g2 q2)|simp(disch:=omega)only[↓aa,ab,simprocAttr,sa,cD,bn, *])
  all_goals exact cf
 have A3:=sU A2 (wz r2)
 unfold oi at r2
 clear r0 r1 A0 A1 A2
 repeat'(first|refine ao (fun _=>?_) (fun _=>?_)|apply bQ|refine az 3 [Fx,Fx,Fx,Fx,Fx,Tx,Fx] ?_|((with_reducible show af _ _ _ _ _);(first|refine ak H (qb _ ah s.cfg) ?_|refine ak H (Jd _ ah s.cfg) ?_|refine ak H (Je _ ah s.cfg s.second) ?_);intro H2 k2 l2 n2 g2 q2;try simp(disch:=omega)only[sm,sl]at l2 n2 g2 q2)|simp(disch:=omega)only[↓aa,ab,simprocAttr,sa,cD,bn, *])
 all_goals try omega
 refine af.mono (cW _ ah aw) ?_
 rintro rr Y ⟨⟨w1,k1,rfl,Rh, -⟩,sY⟩
 rw[show iR s.words (s.cfg.dI s.second) s.top=da s from rfl]at Rh⊢
 have kY:Ko H Y:=Ko.call aw sY
 have lY:=sY.lo;have nY:=sY.ag;have gY:=sY.objs
 simp(disch:=omega)only[sm,sl]at lY nY gY
 have bY:Y.objs.get H.next=some (.row [.int .i64 s.cfg.mh,.int .i64 s.cfg.mj,.int .i64 s.cfg.bj,.int .i64 s.cfg.fL,.bool s.second,.slice wa s.words.length wc,.int .i64 s.top,.slice ta s.table.length tc,.slice fa s.free.length fc,.slice za s.bj.length zc] none true):=by
  rw[gY H.next (by omega)]
  simp(disch:=omega)only[aA,aM,aB,aJ,aH,aI,aN,aO,aR,aP,aL,aE,aK,au,sl, *]
 clear sY gY cW r2
 by_cases r3:(da s).2=0
 case neg=>
  have e:=sV s (by omega) A3 (wx r3)
  have hd:decide ((da s).2=0)=false:=wx r3
  clear r3 A3
  simp(disch:=omega)only[↓aa,ab,simprocAttr,sa,cD,bn, *]
  all_goals exact cf
 have A4:=sU A3 (wz r3)
 have d3:decide ((da s).2=0)=true:=wz r3
 clear r3 A3
 simp(disch:=omega)only[↓aa,ab,simprocAttr,sa,cD,bn, *]
 have zhE:=Rh
 obtain⟨⟨wb,wd,rfl,⟨_,hbm⟩,ye⟩, -⟩:=zhE
 have cn:=AS s
 refine bC Y [1,4,7] (fun T1 H1 u1 j1 n1 l1 g1=>?_) aw
 try simp(disch:=omega)only[sm,sl]at n1 l1 g1
 simp only[sq,simprocAttr]at u1
 refine bt kq (fun nn T X=>∃ i:Nat,nn=(da s).1.length-i∧(T.get 7=some (.int .i64 i))∧(T.get 1=T1.get 1∧T.get 4=T1.get 4)∧True∧True∧(i≤(da s).1.length∧(da s).1.all (jT s)=((da s).1.drop i).all (jT s)∧Ko Y X∧X.lo=Y.lo)) ?_ ?_
 ·refine⟨_,0,rfl,?_,?_,trivial,trivial,wJ _,rfl,j1,l1⟩<;>exact ay
 rintro nn fk X1 ⟨i,rfl,m1,w1,_,_,hi,hE,kX,lX⟩ Qs hQ aD ai
 have BJ:Ko H X1:=kY.trans kX
 have nX:=kX.ag
 have bX:=(kX.objs H.next (by omega)).trans bY
 by_cases hlt:i<(da s).1.length
 ·obtain⟨r,o,cells,gg,tt,part,rfl,hr,aG,a8,rfl⟩:=ye i (da s).1[i] (by simp)
  have a1:=bI hlt
  have q0:=pQ a8
  have eX:=(kX.objs r hr).trans aG
  have hx:=cn _ (wam hlt)
  rw[wX hlt,wbu]at hE
  generalize (da s).1[i]=x at*
  have jU: -9223372036854775808≤x∧x≤9223372036854775807:=by omega
  have ziB:cF s.words x=0:=hx.1
  by_cases gx:jT s x=true
  ·have ziC:=gx
   rw[gx,wa9]at hE
   unfold jT at gx
   rw[wA]at gx
   obtain⟨q1,q2⟩:=gx
   clear cn
   repeat'(first|refine ao (fun _=>?_) (fun _=>?_)|refine az 14 [Fx,Fx,Fx,Fx,Fx,Fx,Fx,Fx,Fx,Fx,Fx,Fx,Fx] ?_|refine az 15 [Fx,Fx,Fx,Fx,Fx,Fx,Fx,Tx,Fx,Fx,Fx] ?_|((with_reducible show af _ _ _ _ _);(first|refine ak X1 (cH _ ah aw x jU) ?_|refine ak X1 (yZ _ ah (aT s.words x)) ?_|refine ak X1 (rp _ ah (aT s.words x)) ?_|refine ak X1 (Ez _ ah s.cfg (cu (aT s.words x))) ?_);intro H2 k2 l2 n2 g2 q2;try simp(disch:=omega)only[sm,sl]at l2 n2 g2 q2)|((with_reducible show Qs _ _ _ _ _);refine ai _ _ _ _ ?_)|simp(disch:=omega)only[↓aa,ab,simprocAttr,sa,cD,bn,bK, *])
   all_goals first|(refine hQ _ _ _ ?_ ⟨i+1,rfl,?_,?_,trivial,trivial,by omega,hE,aw,by first|omega|(simp only[aI,aH,aK];omega)⟩<;>exact ay)|omega|trace_state
  ·have zg:jT s x=false:=waK.2 gx
   rw[zg,wbj]at hE
   have e:=sV s (by omega) A4 hE
   unfold jT at zg
   rw[Bool.and_eq_false_iff]at zg
   clear cn gx A4 hE
   cases hq:qS (aT s.words x)with
   |false=>
    clear zg
    repeat'(first|refine ao (fun _=>?_) (fun _=>?_)|refine az 14 [Fx,Fx,Fx,Fx,Fx,Fx,Fx,Fx,Fx,Fx,Fx,Fx,Fx] ?_|refine az 15 [Fx,Fx,Fx,Fx,Fx,Fx,Fx,Tx,Fx,Fx,Fx] ?_|((with_reducible show af _ _ _ _ _);(first|refine ak X1 (cH _ ah aw x jU) ?_|refine ak X1 (yZ _ ah (aT s.words x)) ?_);intro H2 k2 l2 n2 g2 q2;try simp(disch:=omega)only[sm,sl]at l2 n2 g2 q2)|((with_reducible show Qs _ _ _ _ _);first|refine ai _ _ _ _ ?_|refine aD _ _ _ ?_)|simp(disch:=omega)only[↓aa,ab,simprocAttr,sa,cD,bn,bK, *])
    all_goals exact cf
   |true=>
    have me:decide (s.cfg.Small (cu (aT s.words x)))=false:=zg.resolve_left (by rw[hq];decide)
    clear zg
    repeat'(first|refine ao (fun _=>?_) (fun _=>?_)|refine az 14 [Fx,Fx,Fx,Fx,Fx,Fx,Fx,Fx,Fx,Fx,Fx,Fx,Fx] ?_|refine az 15 [Fx,Fx,Fx,Fx,Fx,Fx,Fx,Tx,Fx,Fx,Fx] ?_|((with_reducible show af _ _ _ _ _);(first|refine ak X1 (cH _ ah aw x jU) ?_|refine ak X1 (yZ _ ah (aT s.words x)) ?_|refine ak X1 (rp _ ah (aT s.words x)) ?_|refine ak X1 (Ez _ ah s.cfg (cu (aT s.words x))) ?_);intro H2 k2 l2 n2 g2 q2;try simp(disch:=omega)only[sm,sl]at l2 n2 g2 q2)|((with_reducible show Qs _ _ _ _ _);first|refine ai _ _ _ _ ?_|refine aD _ _ _ ?_)|simp(disch:=omega)only[↓aa,ab,simprocAttr,sa,cD,bn,bK, *])
    all_goals exact cf
 ·have ei:i=(da s).1.length:=by omega
  rw[ei,wbF]at hE
  have A5:=sU A4 hE
  clear A4 hE cn
  cases r5:ig s with
  |false=>
   have e:=sV s (by omega) A5 r5
   clear A5
   repeat'(first|refine ao (fun _=>?_) (fun _=>?_)|refine az 14 [Fx,Fx,Fx,Fx,Fx,Fx,Fx,Fx,Fx,Fx,Fx,Fx,Fx] ?_|((with_reducible show af _ _ _ _ _);refine ak X1 (cL _ ah aw) ?_;intro H2 k2 l2 n2 g2 q2;try simp(disch:=omega)only[sm,sl]at l2 n2 g2 q2)|((with_reducible show Qs _ _ _ _ _);refine ai _ _ _ _ ?_)|simp(disch:=omega)only[↓aa,ab,simprocAttr,sa,cD,bn,bK, *])
   all_goals exact cf
  |true=>
   have A6:=sU A5 r5
   clear A5
   cases r6:ni s.bj s.cfg.bj with
   |false=>
    have e:=sV s (by omega) A6 r6
    clear A6
    repeat'(first|refine ao (fun _=>?_) (fun _=>?_)|refine az 14 [Fx,Fx,Fx,Fx,Fx,Fx,Fx,Fx,Fx,Fx,Fx,Fx,Fx] ?_|((with_reducible show af _ _ _ _ _);(first|refine ak X1 (cL _ ah aw) ?_|refine ak X1 (cR _ ah aw) ?_);intro H2 k2 l2 n2 g2 q2;try simp(disch:=omega)only[sm,sl]at l2 n2 g2 q2)|((with_reducible show Qs _ _ _ _ _);refine ai _ _ _ _ ?_)|simp(disch:=omega)only[↓aa,ab,simprocAttr,sa,cD,bn,bK, *])
    all_goals exact cf
   |true=>
    have A7:=sU A6 r6
    clear A6
    repeat'(first|refine ao (fun _=>?_) (fun _=>?_)|refine az 14 [Fx,Fx,Fx,Fx,Fx,Fx,Fx,Fx,Fx,Fx,Fx,Fx,Fx] ?_|((with_reducible show af _ _ _ _ _);(first|refine ak X1 (cL _ ah aw) ?_|refine ak X1 (cR _ ah aw) ?_);intro H2 k2 l2 n2 g2 q2;try simp(disch:=omega)only[sm,sl]at l2 n2 g2 q2)|((with_reducible show Qs _ _ _ _ _);refine ai _ _ _ _ ?_)|simp(disch:=omega)only[↓aa,ab,simprocAttr,sa,cD,bn,bK, *])
    all_goals try omega
    have lH:=(k2.objs H.next (by omega)).trans bX
    have Qh:Ko H H2:=BJ.trans k2
    refine af.mono (cA _ ah aw (by have:=xg s;omega)) ?_
    rintro rr Z ⟨⟨xy, -⟩,sZ⟩
    have zhF:=xy
    obtain⟨⟨xa,xc,rfl,⟨_,ur⟩,Bo⟩,uI⟩:=xy
    have EN:=fun(X:Heap) (hx:X.lo≤X.next) (k:Ko Z X) (wv:Nat) (hw:wv<2^64)=>zgG X hx _ (aU s) (zhF.ko (dd.mono _) k) wv hw
    have kZ:Ko H Z:=Ko.call aw sZ
    have lZ:=sZ.lo;have nZ:=sZ.ag
    have bZ:=(sZ.objs H.next (by have:=k2.ag;omega)).trans lH
    have Eu:H.next<Z.next:=by have:=k2.ag;omega
    have dn:=zhB r5
    have zh:=zhz s
    have td:=zhA s
    have ziD:H2.lo=H.lo:=by omega
    clear sZ cL cR cA bY bX kX lX nX k2 l2 n2 g2 q2 d0 d1 d3 lH Qh r5 r6 ye
    refine bC Z [1,10,11] (fun T2 H2 u2 j2 n2 l2 g2=>?_) aw
    try simp(disch:=omega)only[sm,sl]at n2 l2 g2
    simp only[sq,simprocAttr]at u2
    refine bt kq (fun nn T X=>∃ i:Nat,nn=(aU s).length-i∧(T.get 11=some (.int .i64 i))∧(T.get 1=T2.get 1∧T.get 10=T2.get 10)∧True∧True∧(i≤(aU s).length∧(aU s).all (jx s.words (aU s))=((aU s).drop i).all (jx s.words (aU s))∧Ko Z X∧X.lo=Z.lo)) ?_ ?_
    ·refine⟨_,0,rfl,?_,?_,trivial,trivial,wJ _,rfl,j2,l2⟩<;>exact ay
    rintro nn vX X2 ⟨i2,rfl,m2,w2,_,_,yj,bz,gA,lX2⟩ Qs hQ aD ai
    have JC:Ko H X2:=kZ.trans gA
    have HQ:=gA.ag
    have bX2:=(gA.objs H.next (by omega)).trans bZ
    by_cases ma:i2<(aU s).length
    ·obtain⟨r,o,cells,gg,tt,part,rfl,hr,aG,a8,rfl⟩:=Bo i2 (aU s)[i2] (by simp)
     have a1:=bI ma
     have q0:=pQ a8
     have eX:=(gA.objs r hr).trans aG
     have ho:=dn _ (wam ma)
     rw[wX ma,wbu]at bz
     generalize (aU s)[i2]=x at*
     obtain⟨f1,f2,f3,f4, -⟩:=kE ho
     have f5:=jO f3
     have f6:cu (aT s.words x)=1+(aT s.words x).fields+(aT s.words x).bO:=by unfold cu;rw[wF f3]
     have jU: -9223372036854775808≤x∧x≤9223372036854775807:=by omega
     repeat'(first|refine ao (fun _=>?_) (fun _=>?_)|refine az 25 [Fx,Fx,Fx,Fx,Fx,Fx,Fx,Fx,Fx,Fx,Fx,Fx,Fx] ?_|((with_reducible show af _ _ _ _ _);refine ak X2 (cH _ ah aw x jU) ?_;intro H2 k2 l2 n2 g2 q2;try simp(disch:=omega)only[sm,sl]at l2 n2 g2 q2)|((with_reducible show Qs _ _ _ _ _);refine ai _ _ _ _ ?_)|simp(disch:=omega)only[↓aa,ab,simprocAttr,sa,cD,bn,bK, *])
     all_goals try omega
     have fO:=hQ
     have uH:=aD
     refine bC X2 [1,10,11,12,14] (fun T3 H3 u3 j3 n3 l3 g3=>?_) aw
     try simp(disch:=omega)only[sm,sl]at n3 l3 g3
     simp only[sq,simprocAttr]at u3
     refine bt kq (fun nn T X=>∃ k:Nat,nn=(aT s.words x).fields.toNat-k∧(T.get 14=some (.int .i64 k))∧(T.get 1=T3.get 1∧T.get 10=T3.get 10∧T.get 11=T3.get 11∧T.get 12=T3.get 12)∧Ko H3 X∧X.lo=H3.lo∧(k≤(aT s.words x).fields.toNat∧∀ j,j<k→fz (aU s) (jt s.words x j false)=true)) ?_ ?_
     ·refine⟨_,0,rfl,?_,?_,Ko.refl _,rfl,⟨wJ _,fun j h=>absurd h (Nat.not_lt_zero j)⟩⟩<;>exact ay
     have k3:Ko H H3:=JC.trans j3
     rintro nn O0 X3 ⟨k,rfl,m3,w3,om,O1,⟨hk,hL⟩⟩ Qs hQ aD ai
     have D6:=k3.trans om;have yD:=om.ag;have O2:=om.objs
     have JD:Ko Z X3:=gA.trans (j3.trans om)
     have bX3:=(JD.objs H.next (by omega)).trans bZ
     have eX3:=(JD.objs r hr).trans aG
     by_cases Ri:k<(aT s.words x).fields.toNat
     ·have JE:=zhC ho Ri
      have kJ:cY s.words (x+1+k)<2^64:=by
       unfold cY
       rw[wav]
       cases hc:s.words[(x+1+(k:Int)).toNat]? with
       |none=>simp
       |some v=>exact hu v (wag hc)
      have hq:(x+1+(k:Int)).toNat<s.words.length:=by omega
      obtain⟨Jz,ow,ziE,gw,tw,ziF,rfl,iL,Rj,JF,rfl⟩:=fG (x+1+(k:Int)).toNat s.words[(x+1+(k:Int)).toNat] (by simp[hq])
      have eW:=(JC.objs Jz iL).trans Rj
      have eW3:=(D6.objs Jz iL).trans Rj
      have qw:=pQ JF
      have xx:s.words[(x+1+(k:Int)).toNat]=cY s.words (x+1+k):=by
       unfold cY
       rw[wav,wj hq]
       rfl
      rw[xx]at qw
      simp only[wV]at qw
      rw[←JE]at qw kJ
      cases tW:fz (aU s) (jt s.words x k false)with
      |true=>
       have hL2:∀ j,j<k+1→fz (aU s) (jt s.words x j false)=true:=fun j hj=>by
        by_cases ej:j=k
        ·rw[ej];exact tW
        ·exact hL j (by omega)
       clear hL JE xx JF a8 bz dn zh td
       repeat'(first|refine ao (fun _=>?_) (fun _=>?_)|refine az 29 [Fx,Fx,Fx,Fx,Fx,Fx,Fx,Fx,Fx,Fx,Fx,Fx,Fx,Fx] ?_|((with_reducible show af _ _ _ _ _);refine ak X3 (EN _ ah aw _ kJ) ?_;intro H2 k2 l2 n2 g2 q2;try simp(disch:=omega)only[sm,sl]at l2 n2 g2 q2)|((with_reducible show Qs _ _ _ _ _);refine ai _ _ _ _ ?_)|simp(disch:=omega)only[↓aa,ab,simprocAttr,sa,cD,bn,bK, *])
       all_goals first|(refine hQ _ _ _ ?_ ⟨k+1,rfl,?_,?_,?_,?_,⟨by omega,hL2⟩⟩<;>exact ay)|omega|trace_state
      |false=>
       have Rk:jx s.words (aU s) x=false:=wcD.2 ⟨k,wcc.2 Ri,by rw[tW];decide⟩
       rw[Rk,wbj]at bz
       have e:=sV s (n:=7) (by omega) A7 (zh.trans bz)
       clear hL JE xx JF a8 bz dn zh td A7 Rk
       repeat'(first|refine ao (fun _=>?_) (fun _=>?_)|refine az 29 [Fx,Fx,Fx,Fx,Fx,Fx,Fx,Fx,Fx,Fx,Fx,Fx,Fx,Fx] ?_|((with_reducible show af _ _ _ _ _);refine ak X3 (EN _ ah aw _ kJ) ?_;intro H2 k2 l2 n2 g2 q2;try simp(disch:=omega)only[sm,sl]at l2 n2 g2 q2)|((with_reducible show Qs _ _ _ _ _);first|refine ai _ _ _ _ ?_|refine aD _ _ _ ?_)|simp(disch:=omega)only[↓aa,ab,simprocAttr,sa,cD,bn,bK, *])
       all_goals try omega
       refine uH _ _ _ ?_
       simp(disch:=omega)only[↓aa,ab,simprocAttr,sa,cD,bn,bK, *]
       all_goals exact cf
     ·have hFt:jx s.words (aU s) x=true:=waC.2 fun j hj=>hL j (by have:=wcc.1 hj;omega)
      rw[hFt,wa9]at bz
      have hQ:=fO
      clear hL dn td zh
      repeat'(first|refine ao (fun _=>?_) (fun _=>?_)|refine az 29 [Fx,Fx,Fx,Fx,Fx,Fx,Fx,Fx,Fx,Fx,Fx,Fx,Fx,Fx] ?_|((with_reducible show Qs _ _ _ _ _);refine ai _ _ _ _ ?_)|simp(disch:=omega)only[↓aa,ab,simprocAttr,sa,cD,bn,bK, *])
      all_goals first|(refine hQ _ _ _ ?_ ⟨i2+1,rfl,?_,?_,trivial,trivial,by omega,bz,JD,by omega⟩<;>exact ay)|omega|trace_state
    ·have ei2:i2=(aU s).length:=by omega
     rw[ei2,wbF]at bz
     have A8:=sU A7 (zh.trans bz)
     clear A7 zh bz
     repeat'(first|refine ao (fun _=>?_) (fun _=>?_)|refine az 25 [Fx,Fx,Fx,Fx,Fx,Fx,Fx,Fx,Fx,Fx,Fx,Fx,Fx] ?_|((with_reducible show Qs _ _ _ _ _);refine ai _ _ _ _ ?_)|simp(disch:=omega)only[↓aa,ab,simprocAttr,sa,cD,bn,bK, *])
     all_goals try omega
     refine bC X2 [1,10,15] (fun T4 H4 u4 j4 n4 l4 g4=>?_) aw
     try simp(disch:=omega)only[sm,sl]at n4 l4 g4
     simp only[sq,simprocAttr]at u4
     refine bt kq (fun nn T X=>∃ i:Nat,nn=s.bj.length-i∧(T.get 15=some (.int .i64 i))∧(T.get 1=T4.get 1∧T.get 10=T4.get 10)∧True∧True∧(i≤s.bj.length∧s.bj.all (iS (aU s))=(s.bj.drop i).all (iS (aU s))∧Ko X2 X∧X.lo=X2.lo)) ?_ ?_
     ·refine⟨_,0,rfl,?_,?_,trivial,trivial,wJ _,rfl,j4,l4⟩<;>exact ay
     rintro nn T4' X4 ⟨i4,rfl,m4,w4,_,_,hi4,kO,JG,lX4⟩ Qs hQ aD ai
     have Rl:Ko H X4:=JC.trans JG
     have kZ4:Ko Z X4:=gA.trans JG
     have nX4:=Rl.ag
     have bX4:=(JG.objs H.next (by omega)).trans bX2
     by_cases D7:i4<s.bj.length
     ·obtain⟨r,o,cells,gg,tt,part,rfl,hr,aG,a8,rfl⟩:=yR i4 s.bj[i4] (by simp)
      have a4:=bI D7
      have e4:=(Rl.objs r hr).trans aG
      have Rm:=nj s.bj[i4] (wam D7)
      rw[wX D7,wbu]at kO
      generalize s.bj[i4]=x at*
      unfold uw at a8
      obtain⟨q0,q1,q2⟩:=vL a8
      unfold iS at kO
      cases JH:x.used with
      |false=>
       rw[JH,wb0,Bool.true_or,wa9]at kO
       clear td
       repeat'(first|refine ao (fun _=>?_) (fun _=>?_)|((with_reducible show Qs _ _ _ _ _);refine ai _ _ _ _ ?_)|simp(disch:=omega)only[↓aa,ab,simprocAttr,sa,cD,bn,bK, *])
       all_goals first|(refine hQ _ _ _ ?_ ⟨i4+1,rfl,?_,?_,trivial,trivial,by omega,kO,aw,by omega⟩<;>exact ay)|omega|trace_state
      |true=>
       cases BI:fz (aU s) x.word with
       |true=>
        rw[JH,BI,Bool.or_true,wa9]at kO
        clear td
        repeat'(first|refine ao (fun _=>?_) (fun _=>?_)|((with_reducible show af _ _ _ _ _);refine ak X4 (EN _ ah aw _ Rm) ?_;intro H2 k2 l2 n2 g2 q2;try simp(disch:=omega)only[sm,sl]at l2 n2 g2 q2)|((with_reducible show Qs _ _ _ _ _);refine ai _ _ _ _ ?_)|simp(disch:=omega)only[↓aa,ab,simprocAttr,sa,cD,bn,bK, *])
        all_goals first|(refine hQ _ _ _ ?_ ⟨i4+1,rfl,?_,?_,trivial,trivial,by omega,kO,aw,by omega⟩<;>exact ay)|omega|trace_state
       |false=>
        rw[JH,BI,wa7,wct,wbj]at kO
        have e:=sV s (n:=8) (by omega) A8 (td.trans kO)
        clear td A8
        repeat'(first|refine ao (fun _=>?_) (fun _=>?_)|((with_reducible show af _ _ _ _ _);refine ak X4 (EN _ ah aw _ Rm) ?_;intro H2 k2 l2 n2 g2 q2;try simp(disch:=omega)only[sm,sl]at l2 n2 g2 q2)|((with_reducible show Qs _ _ _ _ _);first|refine ai _ _ _ _ ?_|refine aD _ _ _ ?_)|simp(disch:=omega)only[↓aa,ab,simprocAttr,sa,cD,bn,bK, *])
        all_goals exact cf
     ·have ei4:i4=s.bj.length:=by omega
      rw[ei4,wbF]at kO
      have e:=OY s (sU A8 (td.trans kO))
      clear A8 td kO
      repeat'(first|refine ao (fun _=>?_) (fun _=>?_)|((with_reducible show Qs _ _ _ _ _);refine ai _ _ _ _ ?_)|simp(disch:=omega)only[↓aa,ab,simprocAttr,sa,cD,bn,bK, *])
      all_goals exact cf
theorem zhG(H:Heap)(aj:H.lo≤H.next){s:St}{w t f zl:Value}(hS:iQ H s w t f zl)(cx:sE s)(hl:s.words.length≤400)(lj:s.table.length≤100)(ri: -9223372036854775808≤s.top∧s.top≤9223372036854775807):af E (aC 69) [df s w t f zl] H fun r H'=>
  ((ef s=0→∃ v,r= .tuple #[v,.int .i64 0]∧aZ (dd .i64) 1 H' v (aU s))∧(ef s≠0→r= .tuple #[.slice none 0 0,.int .i64 4]))∧aq H H':=by
 have c1:=fun(X:Heap) (hx:X.lo≤X.next) (k:Ko H X)=>zhD X hx (hS.ko k) cx hl lj ri
 have cA:=fun(X:Heap) (hx:X.lo≤X.next) (k:Ko H X)=>QM X hx (hS.ko k) cx.words (by omega) (by omega) ri (by have:=xg s;omega)
 obtain⟨⟨wa,wc,rfl,_⟩,_⟩:=hS.w
 obtain⟨⟨ta,tc,rfl,_⟩,_⟩:=hS.t
 obtain⟨⟨fa,fc,rfl,_⟩,_⟩:=hS.f
 obtain⟨⟨za,zc,rfl,_⟩,_⟩:=hS.sl
 clear hS
 unfold df at c1 cA
 refine aQ Tryz.f69 ?_
 simp only[Tryz.f69]
 unfold df
 by_cases h0:ef s=0
 ·rw[h0]at c1⊢
  repeat'(first|((with_reducible show af _ _ _ _ _);refine ak H (c1 _ ah aw) ?_;intro H2 k2 l2 n2 g2 q2;try simp(disch:=omega)only[sm,sl]at l2 n2 g2 q2)|simp(disch:=omega)only[↓aa,ab,simprocAttr,sa, *])
  all_goals try omega
  refine af.mono (cA _ ah aw) ?_
  rintro rr Z ⟨⟨xy, -⟩,sZ⟩
  have kZ:Ko H Z:=Ko.call aw sZ
  have lZ:=sZ.lo;have nZ:=sZ.ag
  try simp(disch:=omega)only[sm,sl]at lZ nZ
  clear sZ cA c1
  repeat'(first|(apply ao<;>intro)|apply bQ|refine kV (fun _=>?_) (fun _=>?_)|simp(disch:=omega)only[↓aa,ab,simprocAttr,sa, *])
  refine⟨?_,aF⟩
  first|exact⟨fun _=>⟨_,rfl,xy⟩,fun q=>absurd rfl q⟩|exact⟨_,rfl,xy⟩|exact⟨fun _=>⟨_,rfl,xy⟩,fun q=>q.elim⟩|exact⟨fun _=>⟨_,rfl,xy⟩,fun q=>(q rfl).elim⟩
 ·have hd:decide (ef s=0)=false:=wx h0
  repeat'(first|((with_reducible show af _ _ _ _ _);refine ak H (c1 _ ah aw) ?_;intro H2 k2 l2 n2 g2 q2;try simp(disch:=omega)only[sm,sl]at l2 n2 g2 q2)|simp(disch:=omega)only[↓aa,ab,simprocAttr,sa, *])
  all_goals try omega
  refine⟨?_,aF⟩
  first|exact⟨fun q=>absurd q h0,fun _=>rfl⟩|exact⟨fun q=>q.elim,fun _=>trivial⟩
end Go.AM
