/-
  Walks over letters of the functions that the law reaches; written small by a program of mine.
-/
import Derived.Test.YtjgppeeplkidpaaGreatGV8
import Derived.Test.YtjgppeeplkidpaaGreatGV12
set_option linter.unusedVariables false
set_option linter.unusedSectionVars false
namespace Go.AM
attribute [local instance] fnMaps
open Go Go.Proofs
set_option maxRecDepth 100000
set_option maxHeartbeats 10000000
set_option linter.unusedSimpArgs false
theorem zfG(H:Heap)(an:H.lo≤H.next)(v:Value)(l:List Slot)(hv:SL qS 3 H v l)(hu:∀ s∈l,s.word<2^64)(n:Int):af E (aK 92) [v,.int .i64 n] H fun r H'=>r= .bool (nh l n)∧aq H H':=by
 obtain⟨a,ca,rfl,⟨_,ft⟩,bs⟩:=hv
 refine aV Tryz.f92 ?_
 simp only[Tryz.f92]
 by_cases hN:(l.length:Int)=n∧1≤n∧n≤1024
 ·have D4:decide ((l.length:Int)=n)=true:=wz hN.1
  repeat'(first|(apply ak<;>intro)|apply bw|simp(disch:=omega)only[↓aa,ab,simprocAttr,sa, *])
  all_goals try omega
  refine bP H [0,5] (fun T1 H1 u1 k1 n1 l1 g1=>?_) aj
  try simp(disch:=omega)only[sm,sl]at n1 l1 g1
  simp only[sq,simprocAttr]at u1
  refine bL kq (fun nn T X=>∃ i:Nat,nn=l.length-i∧(T.get 5=some (.int .i64 i))∧(T.get 0=T1.get 0)∧Ko H1 X∧X.lo=H1.lo∧(i≤l.length∧l.all eF=(l.drop i).all eF)) ?_ ?_
  ·refine⟨_,0,rfl,?_,?_,Ko.refl _,rfl,⟨wJ _,rfl⟩⟩<;>exact aJ
  rintro nn dA X1 ⟨i,rfl,m1,w1,kx1,eQ,⟨hi,hE⟩⟩ Qs hQ aG ai
  have bz:=k1.trans kx1;have dZ:=kx1.ag;have ed:=kx1.objs
  have hR:nh l n=l.all eF:=by unfold nh;rw[wz hN,wcm]
  by_cases hlt:i<l.length
  ·obtain⟨r,o,cells,gg,tt,part,rfl,hr,aC,aR,rfl⟩:=bs i l[i] (by simp)
   have a1:=bn hlt
   have e1:=bz.objs r hr
   have hw:=hu l[i] (by simp)
   rw[wX hlt,wbu]at hE
   unfold qR at aR
   obtain⟨c0,c1,c2⟩:=yG aR
   have pN:eF l[i]=true→l.all eF=(l.drop (i+1)).all eF:=fun h=>by rw[hE,h,wa9]
   have iW:eF l[i]=false→nh l n=false:=fun h=>by rw[hR,hE,h];rfl
   cases ni:l[i].used with
   |true=>
    cases hg:oO l[i].gen with
    |false=>
     have hs:eF l[i]=false:=by
      unfold eF
      rw[hg,ni];simp
     have hb:=iW hs
     clear hE hR iW pN hs
     repeat'(first|(apply ak<;>intro)|((with_reducible show af _ _ _ _ _);refine ao H1 (IM _ ah _ _ _) ?_;intro H2 k2 l2 n2 g2 q2;try simp(disch:=omega)only[sm,sl]at l2 n2 g2 q2)|((with_reducible show Qs _ _ _ _ _);first|refine ai _ _ _ _ ?_|refine aG _ _ _ ?_)|simp(disch:=omega)only[↓aa,ab,simprocAttr,sa,cZ, *])
     all_goals try omega
     all_goals exact bq
    |true=>
     have AA:=hg
     unfold oO at AA
     have rh:=wap AA
     clear AA
     cases hd:(dJ l[i].word).isSome with
     |false=>
      have hs:eF l[i]=false:=by
       unfold eF
       rw[hd];rfl
      have hb:=iW hs
      clear hE hR iW pN hs
      repeat'(first|(apply ak<;>intro)|apply bw|((with_reducible show af _ _ _ _ _);(first|refine ao H1 (uy _ ah l[i].word hw) ?_|refine ao H1 (IM _ ah _ _ _) ?_);intro H2 k2 l2 n2 g2 q2;try simp(disch:=omega)only[sm,sl]at l2 n2 g2 q2)|((with_reducible show Qs _ _ _ _ _);first|refine ai _ _ _ _ ?_|refine aG _ _ _ ?_)|simp(disch:=omega)only[↓aa,ab,simprocAttr,sa,cZ, *])
      all_goals try omega
      all_goals exact bq
     |true=>
      have hs:eF l[i]=true:=by
       unfold eF
       rw[hd,hg,ni];rfl
      have hN:=pN hs
      clear hE hR iW pN hs
      repeat'(first|(apply ak<;>intro)|apply bw|((with_reducible show af _ _ _ _ _);(first|refine ao H1 (uy _ ah l[i].word hw) ?_|refine ao H1 (IM _ ah _ _ _) ?_);intro H2 k2 l2 n2 g2 q2;try simp(disch:=omega)only[sm,sl]at l2 n2 g2 q2)|((with_reducible show Qs _ _ _ _ _);first|refine ai _ _ _ _ ?_|refine aG _ _ _ ?_)|simp(disch:=omega)only[↓aa,ab,simprocAttr,sa,cZ, *])
      all_goals try omega
      all_goals(refine hQ _ _ _ ?_ ⟨i+1,rfl,?_,?_,?_,?_,⟨by omega,hN⟩⟩<;>exact aJ)
   |false=>
    by_cases cq:0≤l[i].gen∧l[i].gen≤1099511627776
    ·have BL:(oO l[i].gen||(!false&&decide (l[i].gen=1099511627776)))=true:=by
      unfold oO
      by_cases h1:l[i].gen=1099511627776
      ·rw[wz h1];simp
      ·rw[wz (show 0≤l[i].gen∧l[i].gen<1099511627776 by omega)];rfl
     cases kB:decide ((l[i].word:Int)=0)with
     |false=>
      have hs:eF l[i]=false:=by
       unfold eF
       rw[ni,kB];simp
      have hb:=iW hs
      clear hE hR iW pN hs
      repeat'(first|(apply ak<;>intro)|apply bw|((with_reducible show Qs _ _ _ _ _);first|refine ai _ _ _ _ ?_|refine aG _ _ _ ?_)|simp(disch:=omega)only[↓aa,ab,simprocAttr,sa,cZ, *])
      all_goals try omega
      all_goals exact bq
     |true=>
      cases hd:(dJ l[i].word).isSome with
      |false=>
       have hs:eF l[i]=false:=by
        unfold eF
        rw[hd];rfl
       have hb:=iW hs
       clear hE hR iW pN hs
       repeat'(first|(apply ak<;>intro)|apply bw|((with_reducible show af _ _ _ _ _);refine ao H1 (uy _ ah l[i].word hw) ?_;intro H2 k2 l2 n2 g2 q2;try simp(disch:=omega)only[sm,sl]at l2 n2 g2 q2)|((with_reducible show Qs _ _ _ _ _);first|refine ai _ _ _ _ ?_|refine aG _ _ _ ?_)|simp(disch:=omega)only[↓aa,ab,simprocAttr,sa,cZ, *])
       all_goals try omega
       all_goals exact bq
      |true=>
       have hs:eF l[i]=true:=by
        unfold eF
        rw[hd,ni,BL,kB];rfl
       have hN:=pN hs
       clear hE hR iW pN hs
       repeat'(first|(apply ak<;>intro)|apply bw|((with_reducible show af _ _ _ _ _);refine ao H1 (uy _ ah l[i].word hw) ?_;intro H2 k2 l2 n2 g2 q2;try simp(disch:=omega)only[sm,sl]at l2 n2 g2 q2)|((with_reducible show Qs _ _ _ _ _);first|refine ai _ _ _ _ ?_|refine aG _ _ _ ?_)|simp(disch:=omega)only[↓aa,ab,simprocAttr,sa,cZ, *])
       all_goals try omega
       all_goals(refine hQ _ _ _ ?_ ⟨i+1,rfl,?_,?_,?_,?_,⟨by omega,hN⟩⟩<;>exact aJ)
    ·have BL:(oO l[i].gen||(!false&&decide (l[i].gen=1099511627776)))=false:=by
      unfold oO
      rw[wx (show ¬(0≤l[i].gen∧l[i].gen<1099511627776) by omega),wx (show ¬l[i].gen=1099511627776 by omega)];rfl
     have hs:eF l[i]=false:=by
      unfold eF
      rw[ni,BL];simp
     have hb:=iW hs
     clear hE hR iW pN hs
     repeat'(first|(apply ak<;>intro)|apply bw|((with_reducible show Qs _ _ _ _ _);first|refine ai _ _ _ _ ?_|refine aG _ _ _ ?_)|simp(disch:=omega)only[↓aa,ab,simprocAttr,sa,cZ, *])
     all_goals try omega
     all_goals exact bq
  ·have cF:l.all eF=true:=by rw[hE,waO (by omega)];rfl
   rw[cF]at hR
   repeat'(first|(apply ak<;>intro)|((with_reducible show Qs _ _ _ _ _);refine ai _ _ _ _ ?_)|simp(disch:=omega)only[↓aa,ab,simprocAttr,sa, *])
   all_goals exact bq
 ·have hF:nh l n=false:=by unfold nh;rw[wx hN,wcP]
  by_cases h1:(l.length:Int)=n
  ·have rZ:decide ((l.length:Int)=n)=true:=wz h1
   repeat'(first|(apply ak<;>intro)|apply bw|simp(disch:=omega)only[↓aa,ab,simprocAttr,sa, *])
   all_goals exact bq
  ·have rZ:decide ((l.length:Int)=n)=false:=wx h1
   simp(disch:=omega)only[↓aa,ab,simprocAttr,sa, *]
   all_goals exact bq
end Go.AM
