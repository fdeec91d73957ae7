/-
  Walks over letters of the functions that the law reaches; written small by a program of mine.
-/
import Derived.Test.YtjgppeeplkidpaaGreatGYK
import Derived.Test.YtjgppeeplkidpaaGreatGV12
import Derived.Test.YtjgppeeplkidpaaGreatGV16
set_option linter.unusedVariables false
set_option linter.unusedSectionVars false
namespace Go.AM
attribute [local instance] fnMaps
open Go Go.Proofs
set_option maxRecDepth 100000
set_option maxHeartbeats 4000000
set_option linter.unusedSimpArgs false
theorem sR{s:St}{n:Nat}(h:∀ k,k<n→jN s k=true)(hn:jN s n=true):∀ k,k<n+1→jN s k=true:=fun k hk=>by
 by_cases e:k=n
 ·rw[e];exact hn
 ·exact h k (by omega)
theorem sS(s:St){n:Nat}(hn:n<9)(h:∀ k,k<n→jN s k=true)(hb:jN s n=false):dR s=(n:Int)+1:=OL s hn h hb
theorem zgT{l m:List Int}(h:∀ x,x∈l↔x∈m)(p:Int→Bool):l.all p=m.all p:=by
 rw[waU,waC,waC]
 exact⟨fun q x hx=>q x ((h x).2 hx),fun q x hx=>q x ((h x).1 hx)⟩
theorem Ql{l m:List Int}(h:∀ x,x∈l↔x∈m)(w:Nat):fx l w=fx m w:=by
 unfold fx
 cases dJ w with
 |none=>rfl
 |some v=>
  show(if v.kind=2 then decide (v.x∈l)else true)=(if v.kind=2 then decide (v.x∈m)else true)
  split
  ·rw[waU,waL,waL];exact h _
  ·rfl
theorem zgU(s:St):jN s 7=(aS s).all (jm s.words (aS s)):=by
 show(gK s).all (jm s.words (gK s))=_
 rw[zgT (mem_keys s)]
 congr 1
 funext p
 unfold jm
 congr 1
 funext k
 exact Ql (mem_keys s) _
theorem zgV(s:St):jN s 8=s.aI.all (iL (aS s)):=by
 show s.aI.all (iL (gK s))=_
 congr 1
 funext x
 unfold iL
 rw[Ql (mem_keys s)]
theorem zgW{s:St}(h:hU s=true):∀ p∈aS s,cy s.words p=0:=fun p hp=>by
 unfold hU at h
 rw[wA]at h
 rcases waI.1 hp with hp|hp
 ·exact(Bx s p hp).1
 ·obtain⟨y,hy,rfl⟩:=wbG.1 hp
  have:=waC.1 h.2 y hy
  unfold fy at this
  simp only[wA]at this
  exact wap this.1.1.1
theorem zgX{ws:List Nat}{p:Int}(h:cy ws p=0){k:Nat}(hk:k<(aU ws p).fields.toNat):jl ws p k false=da ws (p+1+k):=by
 have hf:=kx h
 have hh:=ku hf.2.2.1
 have e1:iH ws p k false=0:=by
  unfold iH
  rw[wF h]
  exact wF ⟨by omega,by show(k:Int)<(aU ws p).fields;omega⟩
 unfold jl kv
 rw[wF e1,wF e1]
 simp
theorem Qm(H:Heap)(an:H.lo≤H.next){s:St}{w t f zl:Value}(hS:eK H s w t f zl)(cd:nj s)(hl:s.words.length≤400)(jI:s.table.length≤100)(nt: -9223372036854775808≤s.top∧s.top≤9223372036854775807):af E (aK 47) [cz s w t f zl] H fun r H'=>r= .int .i64 (dR s)∧aq H H':=by
 have hu:=cd.words
 have ni:=cd.aI
 have oQ:=hS.w
 have fH:=hS.sl
 have cL:=fun(X:Heap) (hx:X.lo≤X.next) (k:Ko H X)=>zfF X hx (hS.ko k) hu (by omega) (by omega)
 have cA:=fun(X:Heap) (hx:X.lo≤X.next) (k:Ko H X)=>Ps X hx (hS.ko k) hu (by omega) (by omega) nt
 have cR:=fun(X:Heap) (hx:X.lo≤X.next) (k:Ko H X)=>zfG X hx zl s.aI (fH.ko qS.mono k).1 ni s.cfg.aI
 have cW:=fun(X:Heap) (hx:X.lo≤X.next) (k:Ko H X)=>Pt X hx w s.words (oQ.ko RW.mono k) hu (by omega) (s.cfg.dz s.second) s.top nt
 have cH:=fun(X:Heap) (hx:X.lo≤X.next) (k:Ko H X) (x:Int) (hb: -9223372036854775808≤x∧x≤9223372036854775807)=>ri X hx w s.words (oQ.ko RW.mono k) hu x hb (by omega)
 obtain⟨⟨wa,wc,rfl,⟨_,Jc⟩,fS⟩,jb⟩:=oQ
 obtain⟨⟨ta,tc,rfl,_⟩,_⟩:=hS.t
 obtain⟨⟨fa,fc,rfl,_⟩,_⟩:=hS.f
 obtain⟨⟨za,zc,rfl,⟨_,Qn⟩,zq⟩,kS⟩:=fH
 clear hS
 unfold cz at cL cA
 have A0:∀ k,k<0→jN s k=true:=fun k h=>absurd h (Nat.not_lt_zero k)
 refine aV Tryz.f47 ?_
 simp only[Tryz.f47]
 unfold cz
 by_cases r0:s.cfg.Ok
 case neg=>
  have e:=sS s (by omega) A0 (wx r0)
  have hd:decide s.cfg.Ok=false:=wx r0
  clear r0 A0
  repeat'(first|((with_reducible show af _ _ _ _ _);refine ao H (pT _ ah s.cfg) ?_;intro H2 k2 l2 n2 g2 q2;try simp(disch:=omega)only[sm,sl]at l2 n2 g2 q2)|simp(disch:=omega)only[↓aa,ab,simprocAttr,sa,cm, *])
  all_goals exact bq
 have A1:=sR A0 (wz r0)
 have d0:decide s.cfg.Ok=true:=wz r0
 by_cases r1:(s.words.length:Int)=s.cfg.words
 case neg=>
  have e:=sS s (by omega) A1 (wx r1)
  have hd:decide ((s.words.length:Int)=s.cfg.words)=false:=wx r1
  clear r0 r1 A0 A1
  repeat'(first|refine aw 3 [Fx,Fx,Fx,Fx,Fx,Tx,Fx] ?_|((with_reducible show af _ _ _ _ _);(first|refine ao H (pT _ ah s.cfg) ?_|refine ao H (IK _ ah s.cfg) ?_);intro H2 k2 l2 n2 g2 q2;try simp(disch:=omega)only[sm,sl]at l2 n2 g2 q2)|simp(disch:=omega)only[↓aa,ab,simprocAttr,sa,cm, *])
  all_goals exact bq
 have A2:=sR A1 (wz r1)
 have d1:decide ((s.words.length:Int)=s.cfg.words)=true:=wz r1
 have hfi:=Io s.cfg s.second
 by_cases r2:oo s
 case neg=>
  have e:=sS s (by omega) A2 (wx r2)
  unfold oo at r2
  clear r0 r1 A0 A1 A2
  repeat'(first|refine ak (fun _=>?_) (fun _=>?_)|apply bw|refine aw 3 [Fx,Fx,Fx,Fx,Fx,Tx,Fx] ?_|((with_reducible show af _ _ _ _ _);(first|refine ao H (pT _ ah s.cfg) ?_|refine ao H (IK _ ah s.cfg) ?_|refine ao H (IL _ ah s.cfg s.second) ?_);intro H2 k2 l2 n2 g2 q2;try simp(disch:=omega)only[sm,sl]at l2 n2 g2 q2)|simp(disch:=omega)only[↓aa,ab,simprocAttr,sa,cm,bh, *])
  all_goals exact bq
 have A3:=sR A2 (wz r2)
 unfold oo at r2
 clear r0 r1 A0 A1 A2
 repeat'(first|refine ak (fun _=>?_) (fun _=>?_)|apply bw|refine aw 3 [Fx,Fx,Fx,Fx,Fx,Tx,Fx] ?_|((with_reducible show af _ _ _ _ _);(first|refine ao H (pT _ ah s.cfg) ?_|refine ao H (IK _ ah s.cfg) ?_|refine ao H (IL _ ah s.cfg s.second) ?_);intro H2 k2 l2 n2 g2 q2;try simp(disch:=omega)only[sm,sl]at l2 n2 g2 q2)|simp(disch:=omega)only[↓aa,ab,simprocAttr,sa,cm,bh, *])
 all_goals try omega
 refine af.mono (cW _ ah aj) ?_
 rintro rr Y ⟨⟨w1,k1,rfl,Qo, -⟩,sY⟩
 rw[show iJ s.words (s.cfg.dz s.second) s.top=cP s from rfl]at Qo⊢
 have kY:Ko H Y:=Ko.call aj sY
 have lY:=sY.lo;have nY:=sY.ag;have gY:=sY.objs
 simp(disch:=omega)only[sm,sl]at lY nY gY
 have bY:Y.objs.get H.next=some (.row [.int .i64 s.cfg.eP,.int .i64 s.cfg.fp,.int .i64 s.cfg.aI,.int .i64 s.cfg.gV,.bool s.second,.slice wa s.words.length wc,.int .i64 s.top,.slice ta s.table.length tc,.slice fa s.free.length fc,.slice za s.aI.length zc] none true):=by
  rw[gY H.next (by omega)]
  simp(disch:=omega)only[ay,aN,az,aF,aE,aB,aM,aO,aQ,aP,aL,aD,aH,au,sl, *]
 clear sY gY cW r2
 by_cases r3:(cP s).2=0
 case neg=>
  have e:=sS s (by omega) A3 (wx r3)
  have hd:decide ((cP s).2=0)=false:=wx r3
  clear r3 A3
  simp(disch:=omega)only[↓aa,ab,simprocAttr,sa,cm,bh, *]
  all_goals exact bq
 have A4:=sR A3 (wz r3)
 have d3:decide ((cP s).2=0)=true:=wz r3
 clear r3 A3
 simp(disch:=omega)only[↓aa,ab,simprocAttr,sa,cm,bh, *]
 have zgY:=Qo
 obtain⟨⟨wb,wd,rfl,⟨_,hbm⟩,yy⟩, -⟩:=zgY
 have cf:=Bx s
 refine bP Y [1,4,7] (fun T1 H1 u1 j1 n1 l1 g1=>?_) aj
 try simp(disch:=omega)only[sm,sl]at n1 l1 g1
 simp only[sq,simprocAttr]at u1
 refine bL kq (fun nn T X=>∃ i:Nat,nn=(cP s).1.length-i∧(T.get 7=some (.int .i64 i))∧(T.get 1=T1.get 1∧T.get 4=T1.get 4)∧True∧True∧(i≤(cP s).1.length∧(cP s).1.all (jL s)=((cP s).1.drop i).all (jL s)∧Ko Y X∧X.lo=Y.lo)) ?_ ?_
 ·refine⟨_,0,rfl,?_,?_,trivial,trivial,wJ _,rfl,j1,l1⟩<;>exact aJ
 rintro nn dA X1 ⟨i,rfl,m1,w1,_,_,hi,hE,kX,lX⟩ Qs hQ aG ai
 have pX:Ko H X1:=kY.trans kX
 have nX:=kX.ag
 have bX:=(kX.objs H.next (by omega)).trans bY
 by_cases hlt:i<(cP s).1.length
 ·obtain⟨r,o,cells,gg,tt,part,rfl,hr,aC,aR,rfl⟩:=yy i (cP s).1[i] (by simp)
  have a1:=bn hlt
  have q0:=jS aR
  have eX:=(kX.objs r hr).trans aC
  have hx:=cf _ (wam hlt)
  rw[wX hlt,wbu]at hE
  generalize (cP s).1[i]=x at*
  have jM: -9223372036854775808≤x∧x≤9223372036854775807:=by omega
  have zjb:cy s.words x=0:=hx.1
  by_cases fF:jL s x=true
  ·have zjc:=fF
   rw[fF,wa9]at hE
   unfold jL at fF
   rw[wA]at fF
   obtain⟨q1,q2⟩:=fF
   clear cf
   repeat'(first|refine ak (fun _=>?_) (fun _=>?_)|refine aw 14 [Fx,Fx,Fx,Fx,Fx,Fx,Fx,Fx,Fx,Fx,Fx,Fx,Fx] ?_|refine aw 15 [Fx,Fx,Fx,Fx,Fx,Fx,Fx,Tx,Fx,Fx,Fx] ?_|((with_reducible show af _ _ _ _ _);(first|refine ao X1 (cH _ ah aj x jM) ?_|refine ao X1 (zf _ ah (aU s.words x)) ?_|refine ao X1 (rj _ ah (aU s.words x)) ?_|refine ao X1 (EN _ ah s.cfg (ct (aU s.words x))) ?_);intro H2 k2 l2 n2 g2 q2;try simp(disch:=omega)only[sm,sl]at l2 n2 g2 q2)|((with_reducible show Qs _ _ _ _ _);refine ai _ _ _ _ ?_)|simp(disch:=omega)only[↓aa,ab,simprocAttr,sa,cm,bh,bO, *])
   all_goals first|(refine hQ _ _ _ ?_ ⟨i+1,rfl,?_,?_,trivial,trivial,by omega,hE,aj,by first|omega|(simp only[aB,aE,aH];omega)⟩<;>exact aJ)|omega|trace_state
  ·have zr:jL s x=false:=waK.2 fF
   rw[zr,wbj]at hE
   have e:=sS s (by omega) A4 hE
   unfold jL at zr
   rw[Bool.and_eq_false_iff]at zr
   clear cf fF A4 hE
   cases hq:qT (aU s.words x)with
   |false=>
    clear zr
    repeat'(first|refine ak (fun _=>?_) (fun _=>?_)|refine aw 14 [Fx,Fx,Fx,Fx,Fx,Fx,Fx,Fx,Fx,Fx,Fx,Fx,Fx] ?_|refine aw 15 [Fx,Fx,Fx,Fx,Fx,Fx,Fx,Tx,Fx,Fx,Fx] ?_|((with_reducible show af _ _ _ _ _);(first|refine ao X1 (cH _ ah aj x jM) ?_|refine ao X1 (zf _ ah (aU s.words x)) ?_);intro H2 k2 l2 n2 g2 q2;try simp(disch:=omega)only[sm,sl]at l2 n2 g2 q2)|((with_reducible show Qs _ _ _ _ _);first|refine ai _ _ _ _ ?_|refine aG _ _ _ ?_)|simp(disch:=omega)only[↓aa,ab,simprocAttr,sa,cm,bh,bO, *])
    all_goals exact bq
   |true=>
    have hs2:decide (s.cfg.Small (ct (aU s.words x)))=false:=zr.resolve_left (by rw[hq];decide)
    clear zr
    repeat'(first|refine ak (fun _=>?_) (fun _=>?_)|refine aw 14 [Fx,Fx,Fx,Fx,Fx,Fx,Fx,Fx,Fx,Fx,Fx,Fx,Fx] ?_|refine aw 15 [Fx,Fx,Fx,Fx,Fx,Fx,Fx,Tx,Fx,Fx,Fx] ?_|((with_reducible show af _ _ _ _ _);(first|refine ao X1 (cH _ ah aj x jM) ?_|refine ao X1 (zf _ ah (aU s.words x)) ?_|refine ao X1 (rj _ ah (aU s.words x)) ?_|refine ao X1 (EN _ ah s.cfg (ct (aU s.words x))) ?_);intro H2 k2 l2 n2 g2 q2;try simp(disch:=omega)only[sm,sl]at l2 n2 g2 q2)|((with_reducible show Qs _ _ _ _ _);first|refine ai _ _ _ _ ?_|refine aG _ _ _ ?_)|simp(disch:=omega)only[↓aa,ab,simprocAttr,sa,cm,bh,bO, *])
    all_goals exact bq
 ·have ei:i=(cP s).1.length:=by omega
  rw[ei,wbF]at hE
  have A5:=sR A4 hE
  clear A4 hE cf
  cases r5:hU s with
  |false=>
   have e:=sS s (by omega) A5 r5
   clear A5
   repeat'(first|refine ak (fun _=>?_) (fun _=>?_)|refine aw 14 [Fx,Fx,Fx,Fx,Fx,Fx,Fx,Fx,Fx,Fx,Fx,Fx,Fx] ?_|((with_reducible show af _ _ _ _ _);refine ao X1 (cL _ ah aj) ?_;intro H2 k2 l2 n2 g2 q2;try simp(disch:=omega)only[sm,sl]at l2 n2 g2 q2)|((with_reducible show Qs _ _ _ _ _);refine ai _ _ _ _ ?_)|simp(disch:=omega)only[↓aa,ab,simprocAttr,sa,cm,bh,bO, *])
   all_goals exact bq
  |true=>
   have A6:=sR A5 r5
   clear A5
   cases r6:nh s.aI s.cfg.aI with
   |false=>
    have e:=sS s (by omega) A6 r6
    clear A6
    repeat'(first|refine ak (fun _=>?_) (fun _=>?_)|refine aw 14 [Fx,Fx,Fx,Fx,Fx,Fx,Fx,Fx,Fx,Fx,Fx,Fx,Fx] ?_|((with_reducible show af _ _ _ _ _);(first|refine ao X1 (cL _ ah aj) ?_|refine ao X1 (cR _ ah aj) ?_);intro H2 k2 l2 n2 g2 q2;try simp(disch:=omega)only[sm,sl]at l2 n2 g2 q2)|((with_reducible show Qs _ _ _ _ _);refine ai _ _ _ _ ?_)|simp(disch:=omega)only[↓aa,ab,simprocAttr,sa,cm,bh,bO, *])
    all_goals exact bq
   |true=>
    have A7:=sR A6 r6
    clear A6
    repeat'(first|refine ak (fun _=>?_) (fun _=>?_)|refine aw 14 [Fx,Fx,Fx,Fx,Fx,Fx,Fx,Fx,Fx,Fx,Fx,Fx,Fx] ?_|((with_reducible show af _ _ _ _ _);(first|refine ao X1 (cL _ ah aj) ?_|refine ao X1 (cR _ ah aj) ?_);intro H2 k2 l2 n2 g2 q2;try simp(disch:=omega)only[sm,sl]at l2 n2 g2 q2)|((with_reducible show Qs _ _ _ _ _);refine ai _ _ _ _ ?_)|simp(disch:=omega)only[↓aa,ab,simprocAttr,sa,cm,bh,bO, *])
    all_goals try omega
    have kM:=(k2.objs H.next (by omega)).trans bX
    have kH2:Ko H H2:=pX.trans k2
    refine af.mono (cA _ ah aj (by have:=uC s;omega)) ?_
    rintro rr Z ⟨⟨xA, -⟩,sZ⟩
    have zgZ:=xA
    obtain⟨⟨xa,xc,rfl,⟨_,um⟩,BG⟩,qZ⟩:=xA
    have E4:=fun(X:Heap) (hx:X.lo≤X.next) (k:Ko Z X) (wv:Nat) (hw:wv<2^64)=>zfD X hx _ (aS s) (zgZ.ko (RInt.mono _) k) wv hw
    have kZ:Ko H Z:=Ko.call aj sZ
    have lZ:=sZ.lo;have nZ:=sZ.ag
    have bZ:=(sZ.objs H.next (by have:=k2.ag;omega)).trans kM
    have hBZ:H.next<Z.next:=by have:=k2.ag;omega
    have dg:=zgW r5
    have zt:=zgU s
    have sT:=zgV s
    have zjd:H2.lo=H.lo:=by omega
    clear sZ cL cR cA bY bX kX lX nX k2 l2 n2 g2 q2 d0 d1 d3 kM kH2 r5 r6 yy
    refine bP Z [1,10,11] (fun T2 H2 u2 j2 n2 l2 g2=>?_) aj
    try simp(disch:=omega)only[sm,sl]at n2 l2 g2
    simp only[sq,simprocAttr]at u2
    refine bL kq (fun nn T X=>∃ i:Nat,nn=(aS s).length-i∧(T.get 11=some (.int .i64 i))∧(T.get 1=T2.get 1∧T.get 10=T2.get 10)∧True∧True∧(i≤(aS s).length∧(aS s).all (jm s.words (aS s))=((aS s).drop i).all (jm s.words (aS s))∧Ko Z X∧X.lo=Z.lo)) ?_ ?_
    ·refine⟨_,0,rfl,?_,?_,trivial,trivial,wJ _,rfl,j2,l2⟩<;>exact aJ
    rintro nn vU X2 ⟨i2,rfl,m2,w2,_,_,nW,bM,gk,lX2⟩ Qs hQ aG ai
    have Jp:Ko H X2:=kZ.trans gk
    have Iu:=gk.ag
    have bX2:=(gk.objs H.next (by omega)).trans bZ
    by_cases jd:i2<(aS s).length
    ·obtain⟨r,o,cells,gg,tt,part,rfl,hr,aC,aR,rfl⟩:=BG i2 (aS s)[i2] (by simp)
     have a1:=bn jd
     have q0:=jS aR
     have eX:=(gk.objs r hr).trans aC
     have ho:=dg _ (wam jd)
     rw[wX jd,wbu]at bM
     generalize (aS s)[i2]=x at*
     obtain⟨f1,f2,f3,f4, -⟩:=kx ho
     have f5:=ku f3
     have f6:ct (aU s.words x)=1+(aU s.words x).fields+(aU s.words x).bC:=by unfold ct;rw[wF f3]
     have jM: -9223372036854775808≤x∧x≤9223372036854775807:=by omega
     repeat'(first|refine ak (fun _=>?_) (fun _=>?_)|refine aw 25 [Fx,Fx,Fx,Fx,Fx,Fx,Fx,Fx,Fx,Fx,Fx,Fx,Fx] ?_|((with_reducible show af _ _ _ _ _);refine ao X2 (cH _ ah aj x jM) ?_;intro H2 k2 l2 n2 g2 q2;try simp(disch:=omega)only[sm,sl]at l2 n2 g2 q2)|((with_reducible show Qs _ _ _ _ _);refine ai _ _ _ _ ?_)|simp(disch:=omega)only[↓aa,ab,simprocAttr,sa,cm,bh,bO, *])
     all_goals try omega
     have kI:=hQ
     have BQ:=aG
     refine bP X2 [1,10,11,12,14] (fun T3 H3 u3 j3 n3 l3 g3=>?_) aj
     try simp(disch:=omega)only[sm,sl]at n3 l3 g3
     simp only[sq,simprocAttr]at u3
     refine bL kq (fun nn T X=>∃ k:Nat,nn=(aU s.words x).fields.toNat-k∧(T.get 14=some (.int .i64 k))∧(T.get 1=T3.get 1∧T.get 10=T3.get 10∧T.get 11=T3.get 11∧T.get 12=T3.get 12)∧Ko H3 X∧X.lo=H3.lo∧(k≤(aU s.words x).fields.toNat∧∀ j,j<k→fx (aS s) (jl s.words x j false)=true)) ?_ ?_
     ·refine⟨_,0,rfl,?_,?_,Ko.refl _,rfl,⟨wJ _,fun j h=>absurd h (Nat.not_lt_zero j)⟩⟩<;>exact aJ
     have k3:Ko H H3:=Jp.trans j3
     rintro nn ON X3 ⟨k,rfl,m3,w3,ot,OO,⟨hk,hL⟩⟩ Qs hQ aG ai
     have EE:=k3.trans ot;have EF:=ot.ag;have OQ:=ot.objs
     have xB:Ko Z X3:=gk.trans (j3.trans ot)
     have bX3:=(xB.objs H.next (by omega)).trans bZ
     have eX3:=(xB.objs r hr).trans aC
     by_cases Qp:k<(aU s.words x).fields.toNat
     ·have Jq:=zgX ho Qp
      have kD:da s.words (x+1+k)<2^64:=by
       unfold da
       rw[wav]
       cases hc:s.words[(x+1+(k:Int)).toNat]? with
       |none=>simp
       |some v=>exact hu v (wag hc)
      have hq:(x+1+(k:Int)).toNat<s.words.length:=by omega
      obtain⟨zn,ow,zje,gw,tw,zjf,rfl,iF,Qq,Jr,rfl⟩:=fS (x+1+(k:Int)).toNat s.words[(x+1+(k:Int)).toNat] (by simp[hq])
      have eW:=(Jp.objs zn iF).trans Qq
      have eW3:=(EE.objs zn iF).trans Qq
      have qw:=jS Jr
      have xu:s.words[(x+1+(k:Int)).toNat]=da s.words (x+1+k):=by
       unfold da
       rw[wav,wj hq]
       rfl
      rw[xu]at qw
      simp only[wV]at qw
      rw[←Jq]at qw kD
      cases tY:fx (aS s) (jl s.words x k false)with
      |true=>
       have hL2:∀ j,j<k+1→fx (aS s) (jl s.words x j false)=true:=fun j hj=>by
        by_cases ej:j=k
        ·rw[ej];exact tY
        ·exact hL j (by omega)
       clear hL Jq xu Jr aR bM dg zt sT
       repeat'(first|refine ak (fun _=>?_) (fun _=>?_)|refine aw 29 [Fx,Fx,Fx,Fx,Fx,Fx,Fx,Fx,Fx,Fx,Fx,Fx,Fx,Fx] ?_|((with_reducible show af _ _ _ _ _);refine ao X3 (E4 _ ah aj _ kD) ?_;intro H2 k2 l2 n2 g2 q2;try simp(disch:=omega)only[sm,sl]at l2 n2 g2 q2)|((with_reducible show Qs _ _ _ _ _);refine ai _ _ _ _ ?_)|simp(disch:=omega)only[↓aa,ab,simprocAttr,sa,cm,bh,bO, *])
       all_goals first|(refine hQ _ _ _ ?_ ⟨k+1,rfl,?_,?_,?_,?_,⟨by omega,hL2⟩⟩<;>exact aJ)|omega|trace_state
      |false=>
       have Qr:jm s.words (aS s) x=false:=wcD.2 ⟨k,wcc.2 Qp,by rw[tY];decide⟩
       rw[Qr,wbj]at bM
       have e:=sS s (n:=7) (by omega) A7 (zt.trans bM)
       clear hL Jq xu Jr aR bM dg zt sT A7 Qr
       repeat'(first|refine ak (fun _=>?_) (fun _=>?_)|refine aw 29 [Fx,Fx,Fx,Fx,Fx,Fx,Fx,Fx,Fx,Fx,Fx,Fx,Fx,Fx] ?_|((with_reducible show af _ _ _ _ _);refine ao X3 (E4 _ ah aj _ kD) ?_;intro H2 k2 l2 n2 g2 q2;try simp(disch:=omega)only[sm,sl]at l2 n2 g2 q2)|((with_reducible show Qs _ _ _ _ _);first|refine ai _ _ _ _ ?_|refine aG _ _ _ ?_)|simp(disch:=omega)only[↓aa,ab,simprocAttr,sa,cm,bh,bO, *])
       all_goals try omega
       refine BQ _ _ _ ?_
       simp(disch:=omega)only[↓aa,ab,simprocAttr,sa,cm,bh,bO, *]
       all_goals exact bq
     ·have hFt:jm s.words (aS s) x=true:=waC.2 fun j hj=>hL j (by have:=wcc.1 hj;omega)
      rw[hFt,wa9]at bM
      have hQ:=kI
      clear hL dg sT zt
      repeat'(first|refine ak (fun _=>?_) (fun _=>?_)|refine aw 29 [Fx,Fx,Fx,Fx,Fx,Fx,Fx,Fx,Fx,Fx,Fx,Fx,Fx,Fx] ?_|((with_reducible show Qs _ _ _ _ _);refine ai _ _ _ _ ?_)|simp(disch:=omega)only[↓aa,ab,simprocAttr,sa,cm,bh,bO, *])
      all_goals first|(refine hQ _ _ _ ?_ ⟨i2+1,rfl,?_,?_,trivial,trivial,by omega,bM,xB,by omega⟩<;>exact aJ)|omega|trace_state
    ·have ei2:i2=(aS s).length:=by omega
     rw[ei2,wbF]at bM
     have A8:=sR A7 (zt.trans bM)
     clear A7 zt bM
     repeat'(first|refine ak (fun _=>?_) (fun _=>?_)|refine aw 25 [Fx,Fx,Fx,Fx,Fx,Fx,Fx,Fx,Fx,Fx,Fx,Fx,Fx] ?_|((with_reducible show Qs _ _ _ _ _);refine ai _ _ _ _ ?_)|simp(disch:=omega)only[↓aa,ab,simprocAttr,sa,cm,bh,bO, *])
     all_goals try omega
     refine bP X2 [1,10,15] (fun T4 H4 u4 j4 n4 l4 g4=>?_) aj
     try simp(disch:=omega)only[sm,sl]at n4 l4 g4
     simp only[sq,simprocAttr]at u4
     refine bL kq (fun nn T X=>∃ i:Nat,nn=s.aI.length-i∧(T.get 15=some (.int .i64 i))∧(T.get 1=T4.get 1∧T.get 10=T4.get 10)∧True∧True∧(i≤s.aI.length∧s.aI.all (iL (aS s))=(s.aI.drop i).all (iL (aS s))∧Ko X2 X∧X.lo=X2.lo)) ?_ ?_
     ·refine⟨_,0,rfl,?_,?_,trivial,trivial,wJ _,rfl,j4,l4⟩<;>exact aJ
     rintro nn T4' X4 ⟨i4,rfl,m4,w4,_,_,hi4,kJ,Js,lX4⟩ Qs hQ aG ai
     have Qt:Ko H X4:=Jp.trans Js
     have kZ4:Ko Z X4:=gk.trans Js
     have nX4:=Qt.ag
     have bX4:=(Js.objs H.next (by omega)).trans bX2
     by_cases EG:i4<s.aI.length
     ·obtain⟨r,o,cells,gg,tt,part,rfl,hr,aC,aR,rfl⟩:=zq i4 s.aI[i4] (by simp)
      have a4:=bn EG
      have e4:=(Qt.objs r hr).trans aC
      have Qu:=ni s.aI[i4] (wam EG)
      rw[wX EG,wbu]at kJ
      generalize s.aI[i4]=x at*
      unfold qR at aR
      obtain⟨q0,q1,q2⟩:=yG aR
      unfold iL at kJ
      cases zu:x.used with
      |false=>
       rw[zu,wb0,Bool.true_or,wa9]at kJ
       clear sT
       repeat'(first|refine ak (fun _=>?_) (fun _=>?_)|((with_reducible show Qs _ _ _ _ _);refine ai _ _ _ _ ?_)|simp(disch:=omega)only[↓aa,ab,simprocAttr,sa,cm,bh,bO, *])
       all_goals first|(refine hQ _ _ _ ?_ ⟨i4+1,rfl,?_,?_,trivial,trivial,by omega,kJ,aj,by omega⟩<;>exact aJ)|omega|trace_state
      |true=>
       cases hl4:fx (aS s) x.word with
       |true=>
        rw[zu,hl4,Bool.or_true,wa9]at kJ
        clear sT
        repeat'(first|refine ak (fun _=>?_) (fun _=>?_)|((with_reducible show af _ _ _ _ _);refine ao X4 (E4 _ ah aj _ Qu) ?_;intro H2 k2 l2 n2 g2 q2;try simp(disch:=omega)only[sm,sl]at l2 n2 g2 q2)|((with_reducible show Qs _ _ _ _ _);refine ai _ _ _ _ ?_)|simp(disch:=omega)only[↓aa,ab,simprocAttr,sa,cm,bh,bO, *])
        all_goals first|(refine hQ _ _ _ ?_ ⟨i4+1,rfl,?_,?_,trivial,trivial,by omega,kJ,aj,by omega⟩<;>exact aJ)|omega|trace_state
       |false=>
        rw[zu,hl4,wa7,wct,wbj]at kJ
        have e:=sS s (n:=8) (by omega) A8 (sT.trans kJ)
        clear sT A8
        repeat'(first|refine ak (fun _=>?_) (fun _=>?_)|((with_reducible show af _ _ _ _ _);refine ao X4 (E4 _ ah aj _ Qu) ?_;intro H2 k2 l2 n2 g2 q2;try simp(disch:=omega)only[sm,sl]at l2 n2 g2 q2)|((with_reducible show Qs _ _ _ _ _);first|refine ai _ _ _ _ ?_|refine aG _ _ _ ?_)|simp(disch:=omega)only[↓aa,ab,simprocAttr,sa,cm,bh,bO, *])
        all_goals exact bq
     ·have ei4:i4=s.aI.length:=by omega
      rw[ei4,wbF]at kJ
      have e:=OM s (sR A8 (sT.trans kJ))
      clear A8 sT kJ
      repeat'(first|refine ak (fun _=>?_) (fun _=>?_)|((with_reducible show Qs _ _ _ _ _);refine ai _ _ _ _ ?_)|simp(disch:=omega)only[↓aa,ab,simprocAttr,sa,cm,bh,bO, *])
      all_goals exact bq
end Go.AM
