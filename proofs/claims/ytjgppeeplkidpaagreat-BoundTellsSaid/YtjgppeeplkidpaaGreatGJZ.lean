/-
  Walks over letters of the functions that the law reaches; written small by a program of mine.
-/
import Derived.Test.YtjgppeeplkidpaaGreatGYK
import Derived.Test.YtjgppeeplkidpaaGreatGYN
import Derived.Test.YtjgppeeplkidpaaGreatGJW
import Derived.Test.YtjgppeeplkidpaaGreatGV8
set_option linter.unusedVariables false
set_option linter.unusedSectionVars false
namespace Go.AM
attribute [local instance] fnMaps
open Go Go.Proofs
set_option maxRecDepth 100000
set_option maxHeartbeats 4000000
set_option linter.unusedSimpArgs false
theorem zca(y:Nat)(hy:y<18446744073709551616)(k:Int)(h0:0≤k)(h1:k<18446744073709551616):∃ w:Nat,(w:Int)≤k∧intOp .and .u64 (y:Int) k=some (.int .u64 (w:Int)):=by
 obtain⟨k,rfl⟩:=wbz h0
 refine⟨y&&&k,by have:=Nat.and_le_right (n:=y) (m:=k);omega,?_⟩
 exact Hp (by omega) (by omega)
section
variable{b g:Nat}{H:Heap}{r n k:Nat}{l:List Int}
theorem eA.box{X:Heap}{q:Nat}(e:eA b g H X)(hb:b≤H.next)(hq:H.next≤q)(c:List Value):eA b g H (X.setRow q c):=
 ⟨e.lo,e.ag,fun x hx=>⟨by rw[aA,au (show x≠q by omega)];exact(e.below x hx).1,(e.below x hx).2⟩,fun x o hx ho hn=>by rw[aA,au (show x≠q by omega)];exact e.objs x o hx ho hn,e.grps⟩
theorem SD.box{X Y:Heap}{v:Value}{q:Nat}{c:List Value}{t:Bool}(h:SD b g X Y v l)(hr:X.objs.get q=some (.row c none t))(hq:q<X.next):Y.objs.get q=some (.row c none t)∧X.next≤Y.next:=by
 obtain⟨_,_,_,e⟩:=h
 exact⟨e.row hq hr,e.ag⟩
theorem zcb(hx:H.lo≤H.next)(h:DS b g H (.slice (some ⟨r,0,none⟩) n k) l)(a e:Int)(h1:0≤a)(h2:a+12<e)(h3:e≤n):
  af E (aC 148) [(.slice (some ⟨r,0,none⟩) n k),.int .i64 a,.int .i64 e] H fun v H'=>v= .tuple #[]∧SD b g H H' (.slice (some ⟨r,0,none⟩) n k) l:=by
 obtain⟨hl,hn, -⟩:=h.eZ
 have hbn:b≤H.next:=waz (Nat.lt_of_le_of_lt (h.1.lt g rfl).1 (h.1.lt g rfl).2)
 have hq:(e-a).tdiv 4=(e-a)/4:=Int.tdiv_eq_ediv_of_nonneg (by omega)
 obtain⟨d,hd⟩:=wbz (show 0≤e-a by omega)
 have kN:Ko H ((H.newRow [.int .u64 0]).setRow H.next [.int .u64 d]):=aw
 have lN:((H.newRow [.int .u64 0]).setRow H.next [.int .u64 d]).lo=H.lo:=by simp(disch:=omega)only[sm,sl]
 have dN:=h.ko kN lN
 have eN:=h.cU kN lN
 have hw:IntKind.u64.wrap (d:Int)=d:=wrap_u64 (by omega) (by omega)
 have hc8:decide (8≤(d:Int))=true:=wz (by omega)
 rw[hd]at hq
 refine aQ Tryz.f148 ?_
 simp only[Tryz.f148]
 simp(disch:=omega)only[↓aa,ab,simprocAttr,sa,hd, *]
 all_goals try omega
 refine af.mono (zb9 _ d (by omega) (by omega)) ?_
 rintro _ _ ⟨⟨m,rfl,m1,m2⟩,rfl⟩
 have Ep:IntKind.u64.wrap ((m:Int)-1)=(m:Int)-1:=wrap_u64 (by omega) (by omega)
 have PL:((H.newRow [.int .u64 0]).setRow H.next [.int .u64 d]).objs.get H.next=some (.row [.int .u64 d] none true):=by simp(disch:=omega)only[aA,aM,aB,aJ,aH,aI,aN,aO,aR,aP,aL,aE,aK,au,sl]
 have tT:((H.newRow [.int .u64 0]).setRow H.next [.int .u64 d]).next=H.next+1:=by simp(disch:=omega)only[sm,sl]
 repeat'(first|(apply ao<;>intro)|apply bQ|refine kV (fun _=>?_) (fun _=>?_)|refine az 10 [Fx,Fx,Fx,Fx,Fx,Fx,Fx,Fx,Fx,Fx,Fx,Fx,Fx,Fx,Fx,Fx,Fx,Fx,Fx,Fx] ?_|((with_reducible show Qs _ _ _ _ _);first|refine ai _ _ _ _ ?_|refine aD _ _ _ ?_)|simp(disch:=omega)only[↓aa,ab,simprocAttr,sa,hd, *])
 all_goals try omega
 generalize (H.newRow [.int .u64 0]).setRow H.next [.int .u64 d]=N at*
 refine bC N [0,1,6,7,8,9] (fun T5 H5 u5 j5 n5 l5 g5=>?_) aw
 try simp(disch:=omega)only[sm,sl]at n5 l5 g5
 simp only[sq,simprocAttr]at u5
 refine bt kq (fun nn T X=>∃ (i:Int) (y:Nat),nn=(a+d/4*2+2-i).toNat∧(T.get 9=some (.int .i64 i))∧(T.get 0=T5.get 0∧T.get 1=T5.get 1∧T.get 6=T5.get 6∧T.get 7=T5.get 7∧T.get 8=T5.get 8)∧True∧True∧(a+d/4*2-1≤i∧i≤a+d/4*2+2∧y<18446744073709551616∧X.objs.get H.next=some (.row [.int .u64 y] none true)∧H.next<X.next∧SD b g H X (.slice (some ⟨r,0,none⟩) n k) l)) ?_ ?_
 ·refine⟨_,a+d/4*2-1,d,rfl,?_,?_,trivial,trivial,by omega,by omega,by omega,(j5.objs _ (by omega)).trans PL,by omega,(dN.ko j5 l5).go (List.Perm.refl _) (eN.trans (dN.cU j5 l5))⟩<;>exact ay
 clear PL dN eN
 rintro nn iB X5 ⟨i,y,rfl,m5,w5,_,_,i1,i2,hy,hb,hX,l',hp,hD,hE⟩ Qs hQ aD ai
 have lX:=hE.lo
 by_cases hlt:i≤a+d/4*2+1
 ·simp(disch:=omega)only[↓aa,ab,simprocAttr,sa, *]
  all_goals try omega
  refine af.mono (zb8 X5 H.next y hy hb (by omega)) ?_
  rintro _ _ ⟨y2,yb,rfl,rfl⟩
  have gQ:=hD.bx hb (Bx.set [.int .u64 y2])
  have bz:=hE.box hbn (wy _) [.int .u64 y2]
  have gu:(X5.setRow H.next [.int .u64 y2]).objs.get H.next=some (.row [.int .u64 y2] none true):=by rw[aA,cB rfl];rfl
  have jc:H.next<(X5.setRow H.next [.int .u64 y2]).next:=hX
  clear hb hD hE
  generalize X5.setRow H.next [.int .u64 y2]=Z at*
  obtain⟨w,nu,hw2⟩:=zca y2 yb ((m:Int)-1) (by omega) (by omega)
  obtain⟨jh, -, -, -,full,gg,Y1,Y2,F,G,e1,qA,q1,q2,q3,q4,q5,q6,q7,q8⟩:=gQ.eZ
  have hwi:IntKind.i64.wrap (w:Int)=w:=wrap_i64 (by omega) (by omega)
  repeat'(first|(apply ao<;>intro)|refine az 10 [Fx,Fx,Fx,Fx,Fx,Fx,Fx,Fx,Fx,Fx,Fx,Fx,Fx,Fx,Fx,Fx,Fx,Fx,Fx,Fx] ?_|simp(disch:=omega)only[↓aa,ab,simprocAttr,sa,iX, *])
  all_goals try omega
  all_goals first
   |(have q9:=(q4 i (a+((w:Int)-d)) (by omega) (by omega) (by omega) (by omega));refine hQ _ _ _ ?_ ⟨i+1,y2,rfl,?_,?_,trivial,trivial,by omega,by omega,yb,(q9.box gu jc).1,wq jc (q9.box gu jc).2,q9.trans hp bz⟩<;>exact ay)
   |(have q9:=(q4 i (a+w) (by omega) (by omega) (by omega) (by omega));refine hQ _ _ _ ?_ ⟨i+1,y2,rfl,?_,?_,trivial,trivial,by omega,by omega,yb,(q9.box gu jc).1,wq jc (q9.box gu jc).2,q9.trans hp bz⟩<;>exact ay)
 ·repeat'(first|((with_reducible show Qs _ _ _ _ _);refine ai _ _ _ _ ?_)|simp(disch:=omega)only[↓aa,ab,simprocAttr,sa, *])
  all_goals first|exact⟨l',hp,hD,hE⟩|trace_state
end
set_option maxHeartbeats 10000000
theorem zgJ(H:Heap)(aj:H.lo≤H.next)(v:Value)(l:List Slot)(hv:SL ux 3 H v l)(hu:∀ s∈l,s.word<2^64)(n:Int):af E (aC 92) [v,.int .i64 n] H fun r H'=>r= .bool (ni l n)∧aq H H':=by
 obtain⟨a,ca,rfl,⟨_,jP⟩,bJ⟩:=hv
 refine aQ Tryz.f92 ?_
 simp only[Tryz.f92]
 by_cases hN:(l.length:Int)=n∧1≤n∧n≤1024
 ·have Dx:decide ((l.length:Int)=n)=true:=wz hN.1
  repeat'(first|(apply ao<;>intro)|apply bQ|simp(disch:=omega)only[↓aa,ab,simprocAttr,sa, *])
  all_goals try omega
  refine bC H [0,5] (fun T1 H1 u1 k1 n1 l1 g1=>?_) aw
  try simp(disch:=omega)only[sm,sl]at n1 l1 g1
  simp only[sq,simprocAttr]at u1
  refine bt kq (fun nn T X=>∃ i:Nat,nn=l.length-i∧(T.get 5=some (.int .i64 i))∧(T.get 0=T1.get 0)∧Ko H1 X∧X.lo=H1.lo∧(i≤l.length∧l.all eG=(l.drop i).all eG)) ?_ ?_
  ·refine⟨_,0,rfl,?_,?_,Ko.refl _,rfl,⟨wJ _,rfl⟩⟩<;>exact ay
  rintro nn fk X1 ⟨i,rfl,m1,w1,bu,iz,⟨hi,hE⟩⟩ Qs hQ aD ai
  have cw:=k1.trans bu;have fp:=bu.ag;have fX:=bu.objs
  have hR:ni l n=l.all eG:=by unfold ni;rw[wz hN,wcm]
  by_cases hlt:i<l.length
  ·obtain⟨r,o,cells,gg,tt,part,rfl,hr,aG,a8,rfl⟩:=bJ i l[i] (by simp)
   have a1:=bI hlt
   have e1:=cw.objs r hr
   have hw:=hu l[i] (by simp)
   rw[wX hlt,wbu]at hE
   unfold uw at a8
   obtain⟨c0,c1,c2⟩:=vL a8
   have pH:eG l[i]=true→l.all eG=(l.drop (i+1)).all eG:=fun h=>by rw[hE,h,wa9]
   have jf:eG l[i]=false→ni l n=false:=fun h=>by rw[hR,hE,h];rfl
   cases nj:l[i].used with
   |true=>
    cases hg:oQ l[i].gen with
    |false=>
     have hs:eG l[i]=false:=by
      unfold eG
      rw[hg,nj];simp
     have hb:=jf hs
     clear hE hR jf pH hs
     repeat'(first|(apply ao<;>intro)|((with_reducible show af _ _ _ _ _);refine ak H1 (Jf _ ah _ _ _) ?_;intro H2 k2 l2 n2 g2 q2;try simp(disch:=omega)only[sm,sl]at l2 n2 g2 q2)|((with_reducible show Qs _ _ _ _ _);first|refine ai _ _ _ _ ?_|refine aD _ _ _ ?_)|simp(disch:=omega)only[↓aa,ab,simprocAttr,sa,cX, *])
     all_goals try omega
     all_goals exact cf
    |true=>
     have zR:=hg
     unfold oQ at zR
     have rj:=wap zR
     clear zR
     cases hd:(dS l[i].word).isSome with
     |false=>
      have hs:eG l[i]=false:=by
       unfold eG
       rw[hd];rfl
      have hb:=jf hs
      clear hE hR jf pH hs
      repeat'(first|(apply ao<;>intro)|apply bQ|((with_reducible show af _ _ _ _ _);(first|refine ak H1 (uL _ ah l[i].word hw) ?_|refine ak H1 (Jf _ ah _ _ _) ?_);intro H2 k2 l2 n2 g2 q2;try simp(disch:=omega)only[sm,sl]at l2 n2 g2 q2)|((with_reducible show Qs _ _ _ _ _);first|refine ai _ _ _ _ ?_|refine aD _ _ _ ?_)|simp(disch:=omega)only[↓aa,ab,simprocAttr,sa,cX, *])
      all_goals try omega
      all_goals exact cf
     |true=>
      have hs:eG l[i]=true:=by
       unfold eG
       rw[hd,hg,nj];rfl
      have hN:=pH hs
      clear hE hR jf pH hs
      repeat'(first|(apply ao<;>intro)|apply bQ|((with_reducible show af _ _ _ _ _);(first|refine ak H1 (uL _ ah l[i].word hw) ?_|refine ak H1 (Jf _ ah _ _ _) ?_);intro H2 k2 l2 n2 g2 q2;try simp(disch:=omega)only[sm,sl]at l2 n2 g2 q2)|((with_reducible show Qs _ _ _ _ _);first|refine ai _ _ _ _ ?_|refine aD _ _ _ ?_)|simp(disch:=omega)only[↓aa,ab,simprocAttr,sa,cX, *])
      all_goals try omega
      all_goals(refine hQ _ _ _ ?_ ⟨i+1,rfl,?_,?_,?_,?_,⟨by omega,hN⟩⟩<;>exact ay)
   |false=>
    by_cases dW:0≤l[i].gen∧l[i].gen≤1099511627776
    ·have Be:(oQ l[i].gen||(!false&&decide (l[i].gen=1099511627776)))=true:=by
      unfold oQ
      by_cases h1:l[i].gen=1099511627776
      ·rw[wz h1];simp
      ·rw[wz (show 0≤l[i].gen∧l[i].gen<1099511627776 by omega)];rfl
     cases jR:decide ((l[i].word:Int)=0)with
     |false=>
      have hs:eG l[i]=false:=by
       unfold eG
       rw[nj,jR];simp
      have hb:=jf hs
      clear hE hR jf pH hs
      repeat'(first|(apply ao<;>intro)|apply bQ|((with_reducible show Qs _ _ _ _ _);first|refine ai _ _ _ _ ?_|refine aD _ _ _ ?_)|simp(disch:=omega)only[↓aa,ab,simprocAttr,sa,cX, *])
      all_goals try omega
      all_goals exact cf
     |true=>
      cases hd:(dS l[i].word).isSome with
      |false=>
       have hs:eG l[i]=false:=by
        unfold eG
        rw[hd];rfl
       have hb:=jf hs
       clear hE hR jf pH hs
       repeat'(first|(apply ao<;>intro)|apply bQ|((with_reducible show af _ _ _ _ _);refine ak H1 (uL _ ah l[i].word hw) ?_;intro H2 k2 l2 n2 g2 q2;try simp(disch:=omega)only[sm,sl]at l2 n2 g2 q2)|((with_reducible show Qs _ _ _ _ _);first|refine ai _ _ _ _ ?_|refine aD _ _ _ ?_)|simp(disch:=omega)only[↓aa,ab,simprocAttr,sa,cX, *])
       all_goals try omega
       all_goals exact cf
      |true=>
       have hs:eG l[i]=true:=by
        unfold eG
        rw[hd,nj,Be,jR];rfl
       have hN:=pH hs
       clear hE hR jf pH hs
       repeat'(first|(apply ao<;>intro)|apply bQ|((with_reducible show af _ _ _ _ _);refine ak H1 (uL _ ah l[i].word hw) ?_;intro H2 k2 l2 n2 g2 q2;try simp(disch:=omega)only[sm,sl]at l2 n2 g2 q2)|((with_reducible show Qs _ _ _ _ _);first|refine ai _ _ _ _ ?_|refine aD _ _ _ ?_)|simp(disch:=omega)only[↓aa,ab,simprocAttr,sa,cX, *])
       all_goals try omega
       all_goals(refine hQ _ _ _ ?_ ⟨i+1,rfl,?_,?_,?_,?_,⟨by omega,hN⟩⟩<;>exact ay)
    ·have Be:(oQ l[i].gen||(!false&&decide (l[i].gen=1099511627776)))=false:=by
      unfold oQ
      rw[wx (show ¬(0≤l[i].gen∧l[i].gen<1099511627776) by omega),wx (show ¬l[i].gen=1099511627776 by omega)];rfl
     have hs:eG l[i]=false:=by
      unfold eG
      rw[nj,Be];simp
     have hb:=jf hs
     clear hE hR jf pH hs
     repeat'(first|(apply ao<;>intro)|apply bQ|((with_reducible show Qs _ _ _ _ _);first|refine ai _ _ _ _ ?_|refine aD _ _ _ ?_)|simp(disch:=omega)only[↓aa,ab,simprocAttr,sa,cX, *])
     all_goals try omega
     all_goals exact cf
  ·have cP:l.all eG=true:=by rw[hE,waO (by omega)];rfl
   rw[cP]at hR
   repeat'(first|(apply ao<;>intro)|((with_reducible show Qs _ _ _ _ _);refine ai _ _ _ _ ?_)|simp(disch:=omega)only[↓aa,ab,simprocAttr,sa, *])
   all_goals exact cf
 ·have hF:ni l n=false:=by unfold ni;rw[wx hN,wcP]
  by_cases h1:(l.length:Int)=n
  ·have vu:decide ((l.length:Int)=n)=true:=wz h1
   repeat'(first|(apply ao<;>intro)|apply bQ|simp(disch:=omega)only[↓aa,ab,simprocAttr,sa, *])
   all_goals exact cf
  ·have vu:decide ((l.length:Int)=n)=false:=wx h1
   simp(disch:=omega)only[↓aa,ab,simprocAttr,sa, *]
   all_goals exact cf
end Go.AM
