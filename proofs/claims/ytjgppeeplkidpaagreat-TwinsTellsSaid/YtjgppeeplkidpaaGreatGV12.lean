/-
  Walks over letters of the functions that the law reaches; written small by a program of mine.
-/
import Derived.Test.YtjgppeeplkidpaaGreatGV8
set_option linter.unusedVariables false
set_option linter.unusedSectionVars false
namespace Go.AM
attribute [local instance] fnMaps
open Go Go.Proofs
set_option maxRecDepth 100000
set_option maxHeartbeats 4000000
set_option linter.unusedSimpArgs false
theorem zfF(H:Heap)(an:H.lo≤H.next){s:St}{w t f zl:Value}(hS:eK H s w t f zl)(hu:∀ x∈s.words,x<2^64)(hl:s.words.length≤98304)(ht:s.table.length≤300):af E (aK 91) [cz s w t f zl] H fun r H'=>r= .bool (hU s)∧aq H H':=by
 have qG:=hS.t
 have cG:=hS.f
 have oQ:=hS.w
 obtain⟨⟨wa,wc,rfl,_⟩,_⟩:=hS.w
 obtain⟨⟨fa,fc,rfl,_⟩,_⟩:=hS.f
 obtain⟨⟨iK,sc,rfl,_⟩,_⟩:=hS.sl
 have Is:=qG
 obtain⟨⟨ta,tc,rfl,⟨_,ft⟩,bs⟩, -⟩:=Is
 clear hS
 refine aV Tryz.f91 ?_
 simp only[Tryz.f91]
 unfold cz
 cases hR:jK s.cfg.jk s.table s.free with
 |false=>
  have hn:hU s=false:=by unfold hU;rw[hR];rfl
  repeat'(first|refine aw 1 [Fx,Fx,Tx,Fx,Fx,Fx,Fx,Fx,Fx] ?_|((with_reducible show af _ _ _ _ _);(first|refine ao H (Pr _ ah s.cfg) ?_|refine ao H (Pv _ ah s.cfg.jk _ _ s.table s.free (qG.ko bD.mono aj) (cG.ko bD.mono aj) ht) ?_);intro H2 k2 l2 n2 g2 q2;try simp(disch:=omega)only[sm,sl]at l2 n2 g2 q2)|simp(disch:=omega)only[↓aa,ab,simprocAttr,sa,cm, *])
  all_goals try omega
  all_goals exact bq
 |true=>
  have uq:fG s.cfg.jk none s.table=true:=by unfold jK at hR;rw[wA]at hR;exact hR.1
  obtain⟨cf, -, -⟩:=uo uq
  repeat'(first|refine aw 1 [Fx,Fx,Tx,Fx,Fx,Fx,Fx,Fx,Fx] ?_|((with_reducible show af _ _ _ _ _);(first|refine ao H (Pr _ ah s.cfg) ?_|refine ao H (Pv _ ah s.cfg.jk _ _ s.table s.free (qG.ko bD.mono aj) (cG.ko bD.mono aj) ht) ?_);intro H2 k2 l2 n2 g2 q2;try simp(disch:=omega)only[sm,sl]at l2 n2 g2 q2)|simp(disch:=omega)only[↓aa,ab,simprocAttr,sa,cm, *])
  all_goals try omega
  refine bP H [1,3] (fun T1 H1 u1 k1 n1 l1 g1=>?_) aj
  try simp(disch:=omega)only[sm,sl]at n1 l1 g1
  simp only[sq,simprocAttr]at u1
  refine bL kq (fun nn T X=>∃ i:Nat,nn=s.table.length-i∧(T.get 3=some (.int .i64 i))∧(T.get 1=T1.get 1)∧Ko H1 X∧X.lo=H1.lo∧(i≤s.table.length∧s.table.all (fy s)=(s.table.drop i).all (fy s))) ?_ ?_
  ·refine⟨_,0,rfl,?_,?_,Ko.refl _,rfl,⟨wJ _,rfl⟩⟩<;>exact aJ
  rintro nn dA X1 ⟨i,rfl,m1,w1,kx1,eQ,⟨hi,hE⟩⟩ Qs hQ aG ai
  have bz:=k1.trans kx1;have dZ:=kx1.ag;have ed:=kx1.objs
  have hT:hU s=s.table.all (fy s):=by unfold hU;rw[hR];rfl
  by_cases hlt:i<s.table.length
  ·obtain⟨r,o,cells,gg,tt,part,rfl,hr,iF,aR,rfl⟩:=bs i s.table[i] (by simp)
   have e1:=bz.objs r hr
   have a1:=bn hlt
   have hx:=(cf s.table[i] (by simp)).1
   unfold bt at hx
   have jM: -9223372036854775808≤s.table[i].ae∧s.table[i].ae≤9223372036854775807:=by omega
   rw[wX hlt,wbu]at hE
   obtain⟨c1,c2⟩:=qJ aR
   have ziX:SLr RW 1 H1 (.slice wa s.words.length wc) s.words:=SLr.ko RW.mono oQ k1
   generalize s.table[i]=x at aR hE jM c1 c2
   cases hh:decide (cy s.words x.ae=0)with
   |false=>
    have hn:hU s=false:=by rw[hT,hE,fy,hh];rfl
    clear hE hT
    repeat'(first|(apply ak<;>intro)|refine aw 6 [Fx,Fx,Fx,Fx,Fx,Fx,Fx,Fx,Fx,Fx,Fx,Fx,Fx,Fx,Fx] ?_|refine aw 7 [Fx,Fx,Fx,Fx,Tx,Fx,Fx,Fx,Fx,Fx,Fx,Fx,Fx,Fx,Fx,Fx,Fx,Fx,Fx,Fx,Fx,Fx,Fx,Fx,Fx,Fx,Fx,Fx,Fx] ?_|((with_reducible show af _ _ _ _ _);refine ao H1 (ri _ ah _ s.words (SLr.ko RW.mono oQ aj) hu x.ae jM (by omega)) ?_;intro H2 k2 l2 n2 g2 q2;try simp(disch:=omega)only[sm,sl]at l2 n2 g2 q2)|((with_reducible show Qs _ _ _ _ _);first|refine ai _ _ _ _ ?_|refine aG _ _ _ ?_)|simp(disch:=omega)only[↓aa,ab,simprocAttr,sa,bO, *])
    all_goals try omega
    all_goals exact bq
   |true=>
    cases bf:decide (ct (aU s.words x.ae)=x.size)with
    |false=>
     have hn:hU s=false:=by rw[hT,hE,fy,hh,bf];rfl
     clear hE hT
     repeat'(first|(apply ak<;>intro)|refine aw 6 [Fx,Fx,Fx,Fx,Fx,Fx,Fx,Fx,Fx,Fx,Fx,Fx,Fx,Fx,Fx] ?_|refine aw 7 [Fx,Fx,Fx,Fx,Tx,Fx,Fx,Fx,Fx,Fx,Fx,Fx,Fx,Fx,Fx,Fx,Fx,Fx,Fx,Fx,Fx,Fx,Fx,Fx,Fx,Fx,Fx,Fx,Fx] ?_|((with_reducible show af _ _ _ _ _);(first|refine ao H1 (ri _ ah _ s.words (SLr.ko RW.mono oQ aj) hu x.ae jM (by omega)) ?_|refine ao H1 (rj _ ah (aU s.words x.ae)) ?_);intro H2 k2 l2 n2 g2 q2;try simp(disch:=omega)only[sm,sl]at l2 n2 g2 q2)|((with_reducible show Qs _ _ _ _ _);first|refine ai _ _ _ _ ?_|refine aG _ _ _ ?_)|simp(disch:=omega)only[↓aa,ab,simprocAttr,sa,bO, *])
     all_goals try omega
     all_goals exact bq
    |true=>
     cases hq:qT (aU s.words x.ae)with
     |false=>
      have hn:hU s=false:=by rw[hT,hE,fy,hh,bf,hq];rfl
      clear hE hT
      repeat'(first|(apply ak<;>intro)|refine aw 6 [Fx,Fx,Fx,Fx,Fx,Fx,Fx,Fx,Fx,Fx,Fx,Fx,Fx,Fx,Fx] ?_|refine aw 7 [Fx,Fx,Fx,Fx,Tx,Fx,Fx,Fx,Fx,Fx,Fx,Fx,Fx,Fx,Fx,Fx,Fx,Fx,Fx,Fx,Fx,Fx,Fx,Fx,Fx,Fx,Fx,Fx,Fx] ?_|((with_reducible show af _ _ _ _ _);(first|refine ao H1 (ri _ ah _ s.words (SLr.ko RW.mono oQ aj) hu x.ae jM (by omega)) ?_|refine ao H1 (rj _ ah (aU s.words x.ae)) ?_|refine ao H1 (zf _ ah (aU s.words x.ae)) ?_);intro H2 k2 l2 n2 g2 q2;try simp(disch:=omega)only[sm,sl]at l2 n2 g2 q2)|((with_reducible show Qs _ _ _ _ _);first|refine ai _ _ _ _ ?_|refine aG _ _ _ ?_)|simp(disch:=omega)only[↓aa,ab,simprocAttr,sa,bO, *])
      all_goals try omega
      all_goals exact bq
     |true=>
      cases fF:decide (s.cfg.Small x.size)with
      |true=>
       have hn:hU s=false:=by rw[hT,hE,fy,hh,bf,hq,fF];rfl
       clear hE hT
       repeat'(first|(apply ak<;>intro)|refine aw 6 [Fx,Fx,Fx,Fx,Fx,Fx,Fx,Fx,Fx,Fx,Fx,Fx,Fx,Fx,Fx] ?_|refine aw 7 [Fx,Fx,Fx,Fx,Tx,Fx,Fx,Fx,Fx,Fx,Fx,Fx,Fx,Fx,Fx,Fx,Fx,Fx,Fx,Fx,Fx,Fx,Fx,Fx,Fx,Fx,Fx,Fx,Fx] ?_|((with_reducible show af _ _ _ _ _);(first|refine ao H1 (ri _ ah _ s.words (SLr.ko RW.mono oQ aj) hu x.ae jM (by omega)) ?_|refine ao H1 (rj _ ah (aU s.words x.ae)) ?_|refine ao H1 (zf _ ah (aU s.words x.ae)) ?_|refine ao H1 (EN _ ah s.cfg x.size) ?_);intro H2 k2 l2 n2 g2 q2;try simp(disch:=omega)only[sm,sl]at l2 n2 g2 q2)|((with_reducible show Qs _ _ _ _ _);first|refine ai _ _ _ _ ?_|refine aG _ _ _ ?_)|simp(disch:=omega)only[↓aa,ab,simprocAttr,sa,bO,cm, *])
       all_goals try omega
       all_goals exact bq
      |false=>
       have hn:s.table.all (fy s)=(s.table.drop (i+1)).all (fy s):=by rw[hE,fy,hh,bf,hq,fF];rfl
       clear hE hT
       repeat'(first|(apply ak<;>intro)|refine aw 6 [Fx,Fx,Fx,Fx,Fx,Fx,Fx,Fx,Fx,Fx,Fx,Fx,Fx,Fx,Fx] ?_|refine aw 7 [Fx,Fx,Fx,Fx,Tx,Fx,Fx,Fx,Fx,Fx,Fx,Fx,Fx,Fx,Fx,Fx,Fx,Fx,Fx,Fx,Fx,Fx,Fx,Fx,Fx,Fx,Fx,Fx,Fx] ?_|((with_reducible show af _ _ _ _ _);(first|refine ao H1 (ri _ ah _ s.words (SLr.ko RW.mono oQ aj) hu x.ae jM (by omega)) ?_|refine ao H1 (rj _ ah (aU s.words x.ae)) ?_|refine ao H1 (zf _ ah (aU s.words x.ae)) ?_|refine ao H1 (EN _ ah s.cfg x.size) ?_);intro H2 k2 l2 n2 g2 q2;try simp(disch:=omega)only[sm,sl]at l2 n2 g2 q2)|((with_reducible show Qs _ _ _ _ _);refine ai _ _ _ _ ?_)|simp(disch:=omega)only[↓aa,ab,simprocAttr,sa,bO,cm, *])
       all_goals try omega
       refine hQ _ _ _ ?_ ⟨i+1,rfl,?_,?_,?_,?_,⟨by omega,hn⟩⟩<;>exact aJ
  ·have cF:s.table.all (fy s)=true:=by rw[hE,waO (by omega)];rfl
   rw[cF]at hT
   repeat'(first|(apply ak<;>intro)|refine aw 6 [Fx,Fx,Fx,Fx,Fx,Fx,Fx,Fx,Fx,Fx,Fx,Fx,Fx,Fx,Fx] ?_|((with_reducible show Qs _ _ _ _ _);refine ai _ _ _ _ ?_)|simp(disch:=omega)only[↓aa,ab,simprocAttr,sa, *])
   all_goals exact bq
end Go.AM
