/-
  Walks over letters of the functions that the law reaches; written small by a program of mine.
-/
import Derived.Test.YtjgppeeplkidpaaGreatGZT
set_option linter.unusedVariables false
set_option linter.unusedSectionVars false
namespace Go.AM
attribute [local instance] fnMaps
open Go Go.Proofs
set_option maxRecDepth 100000
set_option maxHeartbeats 4000000
set_option linter.unusedSimpArgs false
theorem zhf(H:Heap)(an:H.lo≤H.next){s r:St}{w t f zl w' t' f' gM:Value}(hS:eK H s w t f zl)(hR:eK H r w' t' f' gM)(B:Bool)
  (mL:∀ X:Heap,X.lo≤X.next→Ko H X→af E (aK 45) [cz s w t f zl,cz r w' t' f' gM] X fun v X'=>v= .bool B∧aq X X'):
  af E (aK 18) [cz s w t f zl,cz r w' t' f' gM] H fun v H'=>v= .bool (decide (mw s r)&&B)∧aq H H':=by
 have c1:=fun(X:Heap) (hx:X.lo≤X.next) (k:Ko H X)=>IS X hx _ _ _ _ (hS.ko k).t (hR.ko k).t
 have c2:=fun(X:Heap) (hx:X.lo≤X.next) (k:Ko H X)=>IS X hx _ _ _ _ (hS.ko k).f (hR.ko k).f
 obtain⟨⟨wa,wc,rfl,_⟩,_⟩:=hS.w
 obtain⟨⟨ta,tc,rfl,_⟩,_⟩:=hS.t
 obtain⟨⟨fa,fc,rfl,_⟩,_⟩:=hS.f
 obtain⟨⟨za,zc,rfl,⟨_,ft⟩,bs⟩,_⟩:=hS.sl
 obtain⟨⟨zx,zy,rfl,_⟩,_⟩:=hR.w
 obtain⟨⟨zz,zA,rfl,_⟩,_⟩:=hR.t
 obtain⟨⟨zB,zC,rfl,_⟩,_⟩:=hR.f
 obtain⟨⟨zD,zE,rfl,⟨_,me⟩,fh⟩,_⟩:=hR.sl
 clear hS hR
 have hF:∀ (x:Bool) (p:Prop) [Decidable p],(mw s r→p)→decide p=false→(decide (mw s r)&&x)=false:=fun x p _ h e=>by
  rw[wx (fun ha=>wbI e (h ha)),wbj]
 have sU:mw s r→s.aI.length=r.aI.length:=fun h=>by
  have:=congrArg List.length h.2.2.2.2.2
  simpa only[wO]using this
 unfold cz at mL⊢
 have QA:=fun x y=>zhd x y s.cfg r.cfg
 generalize lO:(decide (mw s r)&&B)=sG
 refine aV Tryz.f18 ?_
 simp only[Tryz.f18]
 cases b1:decide (s.cfg=r.cfg)with
 |false=>
  have pY:sG=false:=lO.symm.trans (hF _ _ (fun h=>h.1) b1)
  subst pY
  clear lO hF sU
  simp(disch:=omega)only[↓aa,ab,simprocAttr,sa, *]
  all_goals exact bq
 |true=>
  cases b2:(s.second==r.second)with
  |false=>
   have pY:sG=false:=lO.symm.trans (hF _ (s.second=r.second) (fun h=>h.2.1) (wx (by simpa using b2)))
   subst pY
   clear lO hF sU
   simp(disch:=omega)only[↓aa,ab,simprocAttr,sa, *]
   all_goals exact bq
  |true=>
   cases b3:decide (s.top=r.top)with
   |false=>
    have pY:sG=false:=lO.symm.trans (hF _ _ (fun h=>h.2.2.1) b3)
    subst pY
    clear lO hF sU
    simp(disch:=omega)only[↓aa,ab,simprocAttr,sa, *]
    all_goals exact bq
   |true=>
    by_cases bj:s.aI.length=r.aI.length
    ·have d2:decide ((s.aI.length:Int)=r.aI.length)=true:=wz (by omega)
     have hl1:s.aI.length≤r.aI.length:=by omega
     have jz:r.aI.length≤s.aI.length:=by omega
     clear bj
     simp(disch:=omega)only[↓aa,ab,simprocAttr,sa, *]
     all_goals try omega
     clear d2 QA
     refine bP H [2,3,5] (fun T5 H5 u5 k5 n5 l5 g5=>?_) aj
     try simp(disch:=omega)only[sm,sl]at n5 l5 g5
     simp only[sq,simprocAttr]at u5
     refine bL kq (fun nn T X=>∃ i:Nat,nn=s.aI.length-i∧(T.get 5=some (.int .i64 i))∧(T.get 2=T5.get 2∧T.get 3=T5.get 3)∧Ko H5 X∧X.lo=H5.lo∧(i≤s.aI.length∧(s.aI.take i).map db=(r.aI.take i).map db)) ?_ ?_
     ·refine⟨_,0,rfl,?_,?_,Ko.refl _,rfl,⟨wJ _,rfl⟩⟩<;>exact aJ
     have p0:=g5 H.next
     have p1:=g5 (H.next+1)
     rw[au (by omega),wS,cr rfl,wai]at p0
     rw[cr rfl,wai]at p1
     rintro nn zk X5 ⟨i,rfl,m5,w5,kx5,lx5,⟨hi,hE⟩⟩ Qs hQ aG ai
     have E6:=k5.trans kx5;have nx5:=kx5.ag;have gx5:=kx5.objs
     have s0:=(kx5.objs H.next (by omega)).trans p0
     have s1:=(kx5.objs (H.next+1) (by omega)).trans p1
     have nx5:=kx5.ag
     have pX:Ko H X5:=k5.trans kx5
     by_cases hlt:i<s.aI.length
     ·obtain⟨q,o,cells,gg,tt,part,rfl,hr,aC,aR,rfl⟩:=bs i s.aI[i] (by simp)
      obtain⟨q2,o2,gy,jP,jQ,jR,rfl,cq,fZ,cM,rfl⟩:=fh i r.aI[i] (by simp)
      have a1:=bn hlt
      have a2:=bn (show i<r.aI.length by omega)
      have e1:=(pX.objs q hr).trans aC
      have e2:=(pX.objs q2 cq).trans fZ
      have hx:s.aI[i]? =some s.aI[i]:=wj hlt
      have hy:r.aI[i]? =some r.aI[i]:=wj (by omega)
      generalize s.aI[i]=x at*
      generalize r.aI[i]=y at*
      unfold qR at aR cM
      obtain⟨q0,q1, -⟩:=yG aR
      obtain⟨q3,q4, -⟩:=yG cM
      have eA:db x≠db y→sG=false:=fun aX=>lO.symm.trans (hF _ (s.aI.map db=r.aI.map db) (fun h=>h.2.2.2.2.2) (wx fun e=>aX (by
       have:=congrArg (fun q=>q[i]?) e
       simp only[war,hx,hy,waE,wi]at this
       exact this)))
      cases hu:(x.used==y.used)with
      |false=>
       have pY:sG=false:=eA fun e=>by
        have:=(Prod.mk.inj e).1
        rw[this]at hu
        simp at hu
       subst pY
       clear eA hE lO hF sU hx hy
       repeat'(first|(apply ak<;>intro)|refine aw 6 [Fx,Fx,Fx,Fx,Fx,Fx,Fx,Fx,Fx,Fx,Fx,Fx,Fx,Fx,Fx,Fx,Fx,Fx,Fx,Fx,Fx,Fx,Fx,Fx,Fx,Fx,Fx,Fx] ?_|((with_reducible show Qs _ _ _ _ _);first|refine ai _ _ _ _ ?_|refine aG _ _ _ ?_)|simp(disch:=omega)only[↓aa,ab,simprocAttr,sa,bne, *])
       all_goals exact bq
      |true=>
       cases hg:decide (x.gen=y.gen)with
       |false=>
        have pY:sG=false:=eA fun e=>wbI hg (Prod.mk.inj e).2
        subst pY
        clear eA hE lO hF sU hx hy
        repeat'(first|(apply ak<;>intro)|refine aw 6 [Fx,Fx,Fx,Fx,Fx,Fx,Fx,Fx,Fx,Fx,Fx,Fx,Fx,Fx,Fx,Fx,Fx,Fx,Fx,Fx,Fx,Fx,Fx,Fx,Fx,Fx,Fx,Fx] ?_|((with_reducible show Qs _ _ _ _ _);first|refine ai _ _ _ _ ?_|refine aG _ _ _ ?_)|simp(disch:=omega)only[↓aa,ab,simprocAttr,sa,bne, *])
        all_goals exact bq
       |true=>
        have bE:db x=db y:=Prod.ext (show x.used=y.used by simpa using hu) (wap hg)
        have h3:(s.aI.take (i+1)).map db=(r.aI.take (i+1)).map db:=by
         rw[wR,wR,waT,waT,hE,hx,hy]
         show _++[db x]=_++[db y]
         rw[bE]
        clear eA hE hF sU hx hy bE
        repeat'(first|(apply ak<;>intro)|refine aw 6 [Fx,Fx,Fx,Fx,Fx,Fx,Fx,Fx,Fx,Fx,Fx,Fx,Fx,Fx,Fx,Fx,Fx,Fx,Fx,Fx,Fx,Fx,Fx,Fx,Fx,Fx,Fx,Fx] ?_|((with_reducible show Qs _ _ _ _ _);refine ai _ _ _ _ ?_)|simp(disch:=omega)only[↓aa,ab,simprocAttr,sa,bne, *])
        all_goals first|(refine hQ _ _ _ ?_ ⟨i+1,rfl,?_,?_,?_,?_,⟨by omega,h3⟩⟩<;>exact aJ)|omega|trace_state
     ·have hK:s.aI.map db=r.aI.map db:=by
       have:i=s.aI.length:=by omega
       subst this
       rwa [waj,wZ (by omega)]at hE
      have zhg:sG=(decide (s.table=r.table)&&decide (s.free=r.free)&&B):=by
       rw[←lO]
       congr 1
       rw[waU,waL]
       unfold mw
       simp only[wA,waL]
       exact⟨fun h=>⟨h.2.2.2.1,h.2.2.2.2.1⟩,fun h=>⟨wap b1,by simpa using b2,wap b3,h.1,h.2,hK⟩⟩
      subst zhg
      clear hE hK lO hF sU
      generalize decide (s.table=r.table)=b4 at*
      generalize decide (s.free=r.free)=b5 at*
      cases b4<;>cases b5
      all_goals repeat'(first|(apply ak<;>intro)|refine aw 6 [Fx,Fx,Fx,Fx,Fx,Fx,Fx,Fx,Fx,Fx,Fx,Fx,Fx,Fx,Fx,Fx,Fx,Fx,Fx,Fx,Fx,Fx,Fx,Fx,Fx,Fx,Fx,Fx] ?_|((with_reducible show af _ _ _ _ _);(first|refine ao X5 (c1 _ ah (pX.trans aj)) ?_|refine ao X5 (c2 _ ah (pX.trans aj)) ?_|refine ao X5 (mL _ ah (pX.trans aj)) ?_);intro H2 k2 l2 n2 g2 q2;try simp(disch:=omega)only[sm,sl]at l2 n2 g2 q2)|((with_reducible show Qs _ _ _ _ _);refine ai _ _ _ _ ?_)|simp(disch:=omega)only[↓aa,ab,simprocAttr,sa, *])
      all_goals exact bq
    ·have d2:decide ((s.aI.length:Int)=r.aI.length)=false:=wx (by omega)
     have pY:sG=false:=lO.symm.trans (hF _ _ sU (wx bj))
     subst pY
     clear lO hF sU
     simp(disch:=omega)only[↓aa,ab,simprocAttr,sa, *]
     all_goals exact bq
structure Wk4 where
 a:Int
 b:Int
 c:Int
 d:Int
deriving DecidableEq
theorem QQ(a b:Wk4)(z:Nat):eqV E (z+2) 30 (.agg #[.int .i64 a.a,.int .i64 a.b,.int .i64 a.c,.int .i64 a.d,.int .i64 0]) (.agg #[.int .i64 b.a,.int .i64 b.b,.int .i64 b.c,.int .i64 b.d,.int .i64 0])=some (decide (a=b)):=by
 rw[decide_eq_decide.2 (show a=b↔a.a=b.a∧a.b=b.b∧a.c=b.c∧a.d=b.d∧(0:Int)=0 by cases a;cases b;simp only[Wk4.mk.injEq,wcl]),eq_30]
 refine mu (a:= .int .i64 a.a) (b:= .int .i64 b.a) kq kq (by rw[eq_3,kN]) (
  mu (a:= .int .i64 a.b) (b:= .int .i64 b.b) kq kq (by rw[eq_3,kN]) (
  mu (a:= .int .i64 a.c) (b:= .int .i64 b.c) kq kq (by rw[eq_3,kN]) (
  mu (a:= .int .i64 a.d) (b:= .int .i64 b.d) kq kq (by rw[eq_3,kN]) (
  E5 (a:= .int .i64 0) (b:= .int .i64 0) kq kq (by rw[eq_3,kN])))))
theorem zhq(x y:Operand)(a b:Wk4):binV E .eql 30 x y (.agg #[.int .i64 a.a,.int .i64 a.b,.int .i64 a.c,.int .i64 a.d,.int .i64 0]) (.agg #[.int .i64 b.a,.int .i64 b.b,.int .i64 b.c,.int .i64 b.d,.int .i64 0])=some (.bool (decide (a=b))):=by
 show(eqV E (98+2) 30 _ _).bind _=_
 rw[QQ];rfl
theorem zhr(x y:Operand)(a b:Wk4):binV E .neq 30 x y (.agg #[.int .i64 a.a,.int .i64 a.b,.int .i64 a.c,.int .i64 a.d,.int .i64 0]) (.agg #[.int .i64 b.a,.int .i64 b.b,.int .i64 b.c,.int .i64 b.d,.int .i64 0])=some (.bool (!decide (a=b))):=by
 show(eqV E (98+2) 30 _ _).bind _=_
 rw[QQ];rfl
theorem zhs{l m:List Ans}{x:Int}(h:oU l m x):decide (x<0)=decide (l=m):=by
 rcases h with⟨rfl,h⟩|⟨i,rfl, -,h⟩
 ·rw[wz h];rfl
 ·rw[wx (by omega),wx (fun e=>h (by rw[e]))]
theorem zht(H:Heap)(an:H.lo≤H.next){s r:St}{w t f zl w' t' f' gM va zJ iv Ci:Value}{l m:List Ans}{p q:List Int}(k k':Wk4)(y y':Int)(hS:eK H s w t f zl)(hR:eK H r w' t' f' gM)
  (hl:SLr RAns 9 H va l) (hm:SLr RAns 9 H zJ m) (hp:SLr (RInt .i64) 1 H iv p) (hq:SLr (RInt .i64) 1 H Ci q) (B:Bool)
  (mL:∀ X:Heap,X.lo≤X.next→Ko H X→af E (aK 17) [cz s w t f zl,cz r w' t' f' gM] X fun v X'=>v= .bool B∧aq X X'):
  af E (aK 24) [.agg #[va,.int .i64 s.cfg.eP,.int .i64 s.cfg.fp,.int .i64 s.cfg.aI,.int .i64 s.cfg.gV,.bool s.second,w,.int .i64 s.top,t,f,zl,iv,.int .i64 k.a,.int .i64 k.b,.int .i64 k.c,.int .i64 k.d,.int .i64 y],
   .agg #[zJ,.int .i64 r.cfg.eP,.int .i64 r.cfg.fp,.int .i64 r.cfg.aI,.int .i64 r.cfg.gV,.bool r.second,w',.int .i64 r.top,t',f',gM,Ci,.int .i64 k'.a,.int .i64 k'.b,.int .i64 k'.c,.int .i64 k'.d,.int .i64 y']] H
   fun v H'=>v= .bool (decide (l=m)&&decide (p=q)&&decide (k=k')&&B)∧aq H H':=by
 have c1:∀ X:Heap,X.lo≤X.next→Ko H X→af E (aK 22) [va,zJ] X fun v X'=>(∃x,v= .int .i64 x∧decide (x<0)=decide (l=m))∧aq X X':=fun X hx k=>
  (Qx X hx _ _ _ _ (hl.ko RAns.mono k) (hm.ko RAns.mono k)).mono fun v X' h=>⟨h.1.elim fun x h=>⟨x,h.1,zhs h.2⟩,h.2⟩
 have c2:=fun(X:Heap) (hx:X.lo≤X.next) (k:Ko H X)=>zgi X hx _ _ _ _ (hp.ko (RInt.mono _) k) (hq.ko (RInt.mono _) k)
 obtain⟨⟨wa,wc,rfl,_⟩,_⟩:=hS.w
 obtain⟨⟨ta,tc,rfl,_⟩,_⟩:=hS.t
 obtain⟨⟨fa,fc,rfl,_⟩,_⟩:=hS.f
 obtain⟨⟨za,zc,rfl,_⟩,_⟩:=hS.sl
 obtain⟨⟨zx,zy,rfl,_⟩,_⟩:=hR.w
 obtain⟨⟨zz,zA,rfl,_⟩,_⟩:=hR.t
 obtain⟨⟨zB,zC,rfl,_⟩,_⟩:=hR.f
 obtain⟨⟨zD,zE,rfl,_⟩,_⟩:=hR.sl
 obtain⟨⟨la,lc,rfl,_⟩,_⟩:=hl
 obtain⟨⟨ma,mc,rfl,_⟩,_⟩:=hm
 obtain⟨⟨pa,pc,rfl,_⟩,_⟩:=hp
 obtain⟨⟨qa,qc,rfl,_⟩,_⟩:=hq
 clear hS hR
 unfold cz at mL
 have hwk:=fun x y=>zhq x y k k'
 generalize decide (l=m)=b1 at*
 generalize decide (p=q)=b2 at*
 generalize decide (k=k')=b3 at*
 refine aV Tryz.f24 ?_
 simp only[Tryz.f24]
 simp(disch:=omega)only[↓aa,ab,simprocAttr,sa, *]
 all_goals try omega
 refine af.mono (c1 _ ah aj) ?_
 rintro _ Y ⟨⟨x,rfl,hx⟩,sY⟩
 have kY:Ko H Y:=Ko.call aj sY
 have lY:=sY.lo;have nY:=sY.ag;have gY:=sY.objs
 simp(disch:=omega)only[sm,sl]at lY nY gY
 have bY:=gY H.next (by omega)
 have bZ:=gY (H.next+1) (by omega)
 rw[au (by omega),wS,cr rfl,wai]at bY
 rw[cr rfl,wai]at bZ
 clear sY gY c1
 cases b1<;>cases b2<;>cases b3
 all_goals repeat'(first|((with_reducible show af _ _ _ _ _);(first|refine ao Y (c2 _ ah (kY.trans aj)) ?_|refine ao Y (mL _ ah (kY.trans aj)) ?_);intro H2 k2 l2 n2 g2 q2;try simp(disch:=omega)only[sm,sl]at l2 n2 g2 q2)|simp(disch:=omega)only[↓aa,ab,simprocAttr,sa, *])
 all_goals exact bq
end Go.AM
