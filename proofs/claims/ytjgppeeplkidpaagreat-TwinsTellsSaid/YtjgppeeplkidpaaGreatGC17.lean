/-
  Walks over letters of the functions that the law reaches; written small by a program of mine.
-/
import Derived.Test.YtjgppeeplkidpaaGreatGC14
set_option linter.unusedVariables false
set_option linter.unusedSectionVars false
namespace Go.AM
attribute [local instance] fnMaps
open Go Go.Proofs
set_option maxRecDepth 100000
set_option maxHeartbeats 1000000
set_option linter.unusedSimpArgs false
def fy(s:St)(x:Span):Bool:=decide (cy s.words x.ae=0)&&decide (ct (aU s.words x.ae)=x.size)&&qT (aU s.words x.ae)&& !decide (s.cfg.Small x.size)
def hU(s:St):Bool:=jK s.cfg.jk s.table s.free&&s.table.all (fy s)
theorem SLr.ko{α:Type}{R:Heap→List Value→α→Prop}(hR:oj R){z:Nat}{H X:Heap}{v:Value}{l:List α}(h:SLr R z H v l)(k:Ko H X):SLr R z X v l:=
 ⟨h.1.ext hR k.ext,fun a n c ee=>(h.2 a n c ee).elim .inl fun⟨r,cells,g,t,h1,h2,h3⟩=> .inr ⟨r,cells,g,t,h1,wq h2 k.ag,(k.objs r h2).trans h3⟩⟩
def By(ks:List Int)(x:Span):List Int:=oN ks x.ae
theorem za5(H:Heap)(an:H.lo≤H.next){lp a rw m:Nat}{s:St}{w t f zl dK:Value}{dE ks:List Int}(hk:Lk H lp s w t f zl a rw m dK dE ks)(hl:lp<H.next)(hS:eK H s w t f zl)(ziS:H.lo≤m)(jI:s.table.length≤100000):af E (aK 198) [ptr lp 0] H fun r H'=>r= .bool (hU s)∧eL m H H'∧H'.lo=H.lo∧(hU s=true→H'.objs.get m=some (.map (fW (s.table.foldl By ks)))):=by
 have aC:=hk.row
 have hA:=hk.ar
 have hm:=hk.map
 have qV:=hk.lm
 have qG:=hS.t
 have cG:=hS.f
 have la:=hA.la;have lw:=hA.lw
 have Ip:lp≠m:=fun e=>by rw[e,hm]at aC;cases aC
 have Iq:a≠m:=fun e=>by have:=hA.box;rw[e,hm]at this;cases this
 have Ir:rw≠m:=fun e=>by have:=hA.row;rw[e,hm]at this;cases this
 unfold gm at aC
 refine aV Tryz.f198 ?_
 simp only[Tryz.f198]
 cases hR:jK s.cfg.jk s.table s.free with
 |false=>
  have hn:hU s=false:=by unfold hU;rw[hR];rfl
  repeat'(first|refine aw 1 [Fx,Fx,Fx,Fx,Fx,Tx,Fx,Fx,Fx,Fx,Fx,Fx,Fx,Fx,Fx,Fx,Fx,Fx] ?_|((with_reducible show af _ _ _ _ _);(first|refine ao H (Of _ ah s.cfg) ?_|refine ao H (OB _ ah s.cfg.jk _ f s.table s.free (qG.ko bD.mono aj) (cG.ko bD.mono aj) jI) ?_);intro H2 k2 l2 n2 g2 q2;try simp(disch:=omega)only[sm,sl]at l2 n2 g2 q2)|simp(disch:=omega)only[↓aa,ab,simprocAttr,sa, *])
  exact⟨Ko.iI aj m,False.elim⟩
 |true=>
  have uq:fG s.cfg.jk none s.table=true:=by unfold jK at hR;rw[wA]at hR;exact hR.1
  obtain⟨cf, -, -⟩:=uo uq
  have hT:hU s=s.table.all (fy s):=by unfold hU;rw[hR];rfl
  have Is:=qG
  obtain⟨⟨ta,tc,rfl,⟨_,Dc⟩,za6⟩, -⟩:=Is
  repeat'(first|refine aw 1 [Fx,Fx,Fx,Fx,Fx,Tx,Fx,Fx,Fx,Fx,Fx,Fx,Fx,Fx,Fx,Fx,Fx,Fx] ?_|((with_reducible show af _ _ _ _ _);(first|refine ao H (Of _ ah s.cfg) ?_|refine ao H (OB _ ah s.cfg.jk _ f s.table s.free (qG.ko bD.mono aj) (cG.ko bD.mono aj) jI) ?_);intro H2 k2 l2 n2 g2 q2;try simp(disch:=omega)only[sm,sl]at l2 n2 g2 q2)|simp(disch:=omega)only[↓aa,ab,simprocAttr,sa, *])
  refine Aj (fun T1 H1 eT eH=>?_)
  have k1:Ko H H1:=by rw[eH];exact aj
  have l1:H1.lo=H.lo:=by rw[eH];simp(disch:=omega)only[↓aa,ab,simprocAttr,sa, *]
  have t29:T1.get 29=some (.slice ta s.table.length tc):=by rw[eT];simp(disch:=omega)only[↓aa,ab,simprocAttr]
  have t30:T1.get 30=some (.int .i64 s.table.length):=by rw[eT];simp(disch:=omega)only[↓aa,ab,simprocAttr]
  have t31:T1.get 31=some (.int .i64 0):=by rw[eT];simp(disch:=omega)only[↓aa,ab,simprocAttr]
  have t0:T1.get 0=some (ptr lp 0):=by rw[eT];simp(disch:=omega)only[↓aa,ab,simprocAttr]
  clear eT eH
  refine bL kq (fun nn T X=>∃ i:Nat,nn=s.table.length-i∧i≤s.table.length∧T.get 31=some (.int .i64 i)∧T.get 29=some (.slice ta s.table.length tc)∧T.get 30=some (.int .i64 s.table.length)∧T.get 0=some (ptr lp 0)∧
   X.objs.get m=some (.map (fW ((s.table.take i).foldl By ks)))∧eL m H X∧X.lo=H.lo∧s.table.all (fy s)=(s.table.drop i).all (fy s)) ⟨_,0,rfl,wJ _,t31,t29,t30,t0,(k1.objs m qV).trans hm,k1.iI m,l1,rfl⟩ ?_
  rintro nn T X ⟨i,rfl,hi,u31,OI,u30,u0,mX,bX,lX,hE⟩ Qs hQ aG ai
  have nX:=bX.ag
  have rX:=(bX.objs lp hl Ip).trans aC
  have AX:=hA.iI bX Iq Ir
  have lmX:m<X.next:=by omega
  have uJ:lp<X.next:=by omega
  by_cases hlt:i<s.table.length
  ·obtain⟨r,o,cells,gg,tt,part,rfl,hr,iF,aR,rfl⟩:=za6 i s.table[i] (by simp)
   have Ho:r≠m:=fun e=>by rw[e,hm]at iF;cases iF
   have e1:=(bX.objs r hr Ho).trans iF
   have lr:r<X.next:=by omega
   have a1:=bn hlt
   have hx:=cf s.table[i] (by simp)
   have cu:=hx.1
   unfold bt at cu
   have jM: -9223372036854775808≤s.table[i].ae∧s.table[i].ae≤9223372036854775807:=by omega
   rw[wX hlt,wbu]at hE
   cases hh:decide (cy s.words s.table[i].ae=0)with
   |false=>
    have hn:s.table.all (fy s)=false:=by rw[hE,fy,hh];rfl
    clear hE
    simp only[wal]at hh
    repeat'(first|(apply ak<;>intro)|refine aw 6 [Fx,Fx,Fx,Fx,Fx,Fx,Fx,Fx,Fx,Fx,Fx,Fx,Fx] ?_|refine aw 7 [Fx,Fx,Fx,Fx,Tx,Fx,Fx,Fx,Fx,Fx,Fx,Fx,Fx,Fx,Fx,Fx,Fx,Fx,Fx,Fx,Fx,Fx,Fx,Fx] ?_|((with_reducible show af _ _ _ _ _);refine ao X (oM _ ah (AX.same aj) s.table[i].ae jM) ?_;intro H2 k2 l2 n2 g2 q2;try simp(disch:=omega)only[sm,sl]at l2 n2 g2 q2)|((with_reducible show Qs _ _ _ _ _);first|refine ai _ _ _ _ ?_|refine aG _ _ _ ?_)|simp(disch:=omega)only[↓aa,ab,simprocAttr,sa,bO, *])
    all_goals try contradiction
    all_goals try omega
    exact⟨bX.ko aj,False.elim⟩
   |true=>
    have hz:cy s.words s.table[i].ae=0:=wap hh
    cases bf:decide (ct (aU s.words s.table[i].ae)=s.table[i].size)with
    |false=>
     have hn:s.table.all (fy s)=false:=by rw[hE,fy,hh,bf];rfl
     clear hE
     repeat'(first|(apply ak<;>intro)|refine aw 6 [Fx,Fx,Fx,Fx,Fx,Fx,Fx,Fx,Fx,Fx,Fx,Fx,Fx] ?_|refine aw 7 [Fx,Fx,Fx,Fx,Tx,Fx,Fx,Fx,Fx,Fx,Fx,Fx,Fx,Fx,Fx,Fx,Fx,Fx,Fx,Fx,Fx,Fx,Fx,Fx] ?_|((with_reducible show af _ _ _ _ _);(first|refine ao X (oM _ ah (AX.same aj) s.table[i].ae jM) ?_|refine ao X (qP _ ah (aU s.words s.table[i].ae)) ?_);intro H2 k2 l2 n2 g2 q2;try simp(disch:=omega)only[sm,sl]at l2 n2 g2 q2)|((with_reducible show Qs _ _ _ _ _);first|refine ai _ _ _ _ ?_|refine aG _ _ _ ?_)|simp(disch:=omega)only[↓aa,ab,simprocAttr,sa,bO, *])
     all_goals try contradiction
     all_goals try omega
     exact⟨bX.ko aj,False.elim⟩
    |true=>
     have ziT:ct (aU s.words s.table[i].ae)=s.table[i].size:=wap bf
     cases hq:qT (aU s.words s.table[i].ae)with
     |false=>
      have hn:s.table.all (fy s)=false:=by rw[hE,fy,hh,bf,hq];rfl
      clear hE
      repeat'(first|(apply ak<;>intro)|refine aw 6 [Fx,Fx,Fx,Fx,Fx,Fx,Fx,Fx,Fx,Fx,Fx,Fx,Fx] ?_|refine aw 7 [Fx,Fx,Fx,Fx,Tx,Fx,Fx,Fx,Fx,Fx,Fx,Fx,Fx,Fx,Fx,Fx,Fx,Fx,Fx,Fx,Fx,Fx,Fx,Fx] ?_|((with_reducible show af _ _ _ _ _);(first|refine ao X (oM _ ah (AX.same aj) s.table[i].ae jM) ?_|refine ao X (qP _ ah (aU s.words s.table[i].ae)) ?_|refine ao X (yW _ ah (aU s.words s.table[i].ae)) ?_);intro H2 k2 l2 n2 g2 q2;try simp(disch:=omega)only[sm,sl]at l2 n2 g2 q2)|((with_reducible show Qs _ _ _ _ _);first|refine ai _ _ _ _ ?_|refine aG _ _ _ ?_)|simp(disch:=omega)only[↓aa,ab,simprocAttr,sa,bO, *])
      all_goals try contradiction
      all_goals try omega
      exact⟨bX.ko aj,False.elim⟩
     |true=>
      by_cases fF:s.cfg.Small s.table[i].size
      ·have hn:s.table.all (fy s)=false:=by rw[hE,fy,hh,bf,hq,wz fF];rfl
       clear hE
       repeat'(first|(apply ak<;>intro)|refine aw 6 [Fx,Fx,Fx,Fx,Fx,Fx,Fx,Fx,Fx,Fx,Fx,Fx,Fx] ?_|refine aw 7 [Fx,Fx,Fx,Fx,Tx,Fx,Fx,Fx,Fx,Fx,Fx,Fx,Fx,Fx,Fx,Fx,Fx,Fx,Fx,Fx,Fx,Fx,Fx,Fx] ?_|((with_reducible show af _ _ _ _ _);(first|refine ao X (oM _ ah (AX.same aj) s.table[i].ae jM) ?_|refine ao X (qP _ ah (aU s.words s.table[i].ae)) ?_|refine ao X (yW _ ah (aU s.words s.table[i].ae)) ?_|refine ao X (Eo _ ah s.cfg s.table[i].size) ?_);intro H2 k2 l2 n2 g2 q2;try simp(disch:=omega)only[sm,sl]at l2 n2 g2 q2)|((with_reducible show Qs _ _ _ _ _);first|refine ai _ _ _ _ ?_|refine aG _ _ _ ?_)|simp(disch:=omega)only[↓aa,ab,simprocAttr,sa,bO, *])
       all_goals try contradiction
       all_goals try omega
       exact⟨bX.ko aj,False.elim⟩
      ·have hn:s.table.all (fy s)=(s.table.drop (i+1)).all (fy s):=by rw[hE,fy,hh,bf,hq,wx fF];rfl
       clear hE
       repeat'(first|(apply ak<;>intro)|refine aw 6 [Fx,Fx,Fx,Fx,Fx,Fx,Fx,Fx,Fx,Fx,Fx,Fx,Fx] ?_|refine aw 7 [Fx,Fx,Fx,Fx,Tx,Fx,Fx,Fx,Fx,Fx,Fx,Fx,Fx,Fx,Fx,Fx,Fx,Fx,Fx,Fx,Fx,Fx,Fx,Fx] ?_|refine aw 9 [Fx,Fx,Fx,Fx,Fx,Fx,Fx] ?_|((with_reducible show af _ _ _ _ _);(first|refine ao X (oM _ ah (AX.same aj) s.table[i].ae jM) ?_|refine ao X (qP _ ah (aU s.words s.table[i].ae)) ?_|refine ao X (yW _ ah (aU s.words s.table[i].ae)) ?_|refine ao X (Eo _ ah s.cfg s.table[i].size) ?_);intro H2 k2 l2 n2 g2 q2;try simp(disch:=omega)only[sm,sl]at l2 n2 g2 q2)|((with_reducible show Qs _ _ _ _ _);refine ai _ _ _ _ ?_)|simp(disch:=omega)only[↓aa,ab,simprocAttr,sa,bO,OC,OD, *])
       all_goals try contradiction
       all_goals try omega
       refine hQ _ _ _ ?_ ⟨i+1,rfl,by omega,?_,?_,?_,?_,?_,((bX.ko k2).setAt _).ko ((Ko.refl _).bU _),?_,hn⟩
       ·omega
       iterate 4 exact aJ
       ·rw[aL,iU,cr rfl,wR,wj hlt,List.foldl_append];rfl
       ·rw[aH]
  ·have hn:s.table.all (fy s)=true:=by rw[hE,waO (by omega)];rfl
   clear hE
   repeat'(first|(apply ak<;>intro)|((with_reducible show Qs _ _ _ _ _);refine ai _ _ _ _ ?_)|simp(disch:=omega)only[↓aa,ab,simprocAttr,sa, *])
   all_goals try omega
   rw[show i=s.table.length by omega,waj]
   exact fun _=>rfl
end Go.AM
