/-
  Walks over letters of the functions that the law reaches; written small by a program of mine.
-/
import Derived.Test.YtjgppeeplkidpaaGreatGJZ
set_option linter.unusedVariables false
set_option linter.unusedSectionVars false
namespace Go.AM
attribute [local instance] fnMaps
open Go Go.Proofs
set_option maxRecDepth 100000
set_option maxHeartbeats 4000000
set_option linter.unusedSimpArgs false
theorem zck{b g r n k:Nat}:∀ (m:Nat) (H:Heap) (l:List Int),H.lo≤H.next→DS b g H (.slice (some ⟨r,0,none⟩) n k) l→∀ (a e aX:Int),0≤a→a≤e→e≤n→0≤aX→aX≤1000→e-a≤m→
  af E (aC 107) [.slice (some ⟨r,0,none⟩) n k,.int .i64 a,.int .i64 e,.int .i64 aX] H fun v H'=>v= .tuple #[]∧SD b g H H' (.slice (some ⟨r,0,none⟩) n k) l:=by
 intro m
 induction m using Nat.strongRecOn with
 |_ m ih=>
 intro H l hx h a e aX h1 h2 h3 h4 h5 h6
 obtain⟨hl,hn, -⟩:=h.eZ
 refine aQ Tryz.f107 ?_
 simp only[Tryz.f107]
 simp(disch:=omega)only[↓aa,ab,simprocAttr,sa, *]
 all_goals try omega
 refine bC H [0,1,2,3,8,9] (fun T5 H5 u5 j5 n5 l5 g5=>?_) aw
 try simp(disch:=omega)only[sm,sl]at n5 l5 g5
 simp only[sq,simprocAttr]at u5
 refine bt kq (fun nn T X=>∃ (a e aX:Int) (p q:Bool),nn=(e-a).toNat∧(T.get 1=some (.int .i64 a)∧T.get 2=some (.int .i64 e)∧T.get 3=some (.int .i64 aX)∧T.get 8=some (.bool p)∧T.get 9=some (.bool q))∧(T.get 0=T5.get 0)∧True∧True∧(0≤a∧a≤e∧e≤n∧e-a≤m∧0≤aX∧aX≤1000∧SD b g H X (.slice (some ⟨r,0,none⟩) n k) l)) ?_ ?_
 ·refine⟨_,a,e,aX,true,true,rfl,?_,?_,trivial,trivial,by omega,by omega,by omega,by omega,by omega,by omega,SD.ko h j5 l5⟩<;>exact ay
 clear h h1 h2 h3 h4 h5 h6
 rintro nn iB X5 ⟨a,e,aX,p,q,rfl,m5,w5,_,_,h1,h2,h3,h6,h4,h5,l',hp,hD,hE⟩ Qs hQ aD ai
 have lX:=hE.lo;have nX:=hE.ag
 by_cases hs:e-a≤12
 ·simp(disch:=omega)only[↓aa,ab,simprocAttr,sa, *]
  all_goals try omega
  refine af.mono (zbY hD a e h1 h2 h3) ?_
  rintro _ Z ⟨rfl,hZ⟩
  repeat'(first|((with_reducible show Qs _ _ _ _ _);refine aD _ _ _ ?_)|simp(disch:=omega)only[↓aa,ab,simprocAttr,sa, *])
  all_goals first|exact hZ.trans hp hE|trace_state
 by_cases hz:aX=0
 ·subst hz
  simp(disch:=omega)only[↓aa,ab,simprocAttr,sa, *]
  all_goals try omega
  refine af.mono (zb0 hD a e h1 h2 h3) ?_
  rintro _ Z ⟨rfl,hZ⟩
  repeat'(first|((with_reducible show Qs _ _ _ _ _);refine aD _ _ _ ?_)|simp(disch:=omega)only[↓aa,ab,simprocAttr,sa, *])
  all_goals first|exact hZ.trans hp hE|trace_state
 have key:∀ (Z:Heap) (l2:List Int) (zij:Int),l2.Perm l→DS b g Z (.slice (some ⟨r,0,none⟩) n k) l2→eA b g H Z→Z.lo≤Z.next:=fun Z l2 _ _ _ h=>by rw[h.lo];exact wK hx h.ag
 obtain⟨pp,qx⟩:∃ x:Bool,x=p:=⟨p,rfl⟩
 obtain⟨qq,Es⟩:∃ x:Bool,x=q:=⟨q,rfl⟩
 cases p
 all_goals cases q
 all_goals repeat' simp(disch:=omega)only[↓aa,ab,simprocAttr,sa, *]
 all_goals try omega
 all_goals try
  refine af.mono (zcb (by omega) hD a e h1 (by omega) h3) ?_
  rintro _ Z ⟨rfl,l2,p2,D2,E2⟩
  have hp:=p2.trans hp;have hE:=hE.trans E2
  clear hD
  have hD:=D2
  repeat'(first|(apply ao<;>intro)|apply bQ|refine kV (fun _=>?_) (fun _=>?_)|refine az 17 [Fx,Fx,Fx,Fx,Fx,Fx,Fx,Fx,Fx,Fx,Fx,Fx,Fx,Fx,Fx] ?_|((with_reducible show Qs _ _ _ _ _);first|refine ai _ _ _ _ ?_|refine aD _ _ _ ?_)|simp(disch:=omega)only[↓aa,ab,simprocAttr,sa, *])
  all_goals try omega
 all_goals
  have aj:=key _ _ 0 hp hD hE
  refine af.mono (zb4 aj hD a e h1 (by omega) h3) ?_
  rintro _ Y ⟨pv,t,hv,rfl,sY⟩
  have hE:=hE.trans (hD.cU sY.ko sY.lo)
  have hD:=hD.ko sY.ko sY.lo
  clear sY
  obtain⟨jh, -, -, -,full,gg,_,_,_,_,e1,qA, -⟩:=hD.eZ
  by_cases ht:t=2
 all_goals repeat'(first|(apply ao<;>intro)|apply bQ|refine az 17 [Fx,Fx,Fx,Fx,Fx,Fx,Fx,Fx,Fx,Fx,Fx,Fx,Fx,Fx,Fx] ?_|((with_reducible show af _ _ _ _ _);refine lI (mz _ _ _) ?_)|simp(disch:=omega)only[↓aa,ab,simprocAttr,sa,iX, *])
 all_goals try omega
 all_goals try
  refine af.mono (zbX hD a e h1 h2 h3) ?_
  rintro _ Y2 ⟨rfl,l3,p3,D3,E3⟩
  have hp:=p3.trans hp;have hE:=hE.trans E3;clear hD;have hD:=D3;clear e1 qA jh
  obtain⟨jh, -, -, -,full,gg,_,_,_,_,e1,qA, -⟩:=hD.eZ
  repeat'(first|(apply ao<;>intro)|apply bQ|refine az 17 [Fx,Fx,Fx,Fx,Fx,Fx,Fx,Fx,Fx,Fx,Fx,Fx,Fx,Fx,Fx] ?_|((with_reducible show af _ _ _ _ _);refine lI (mz _ _ _) ?_)|simp(disch:=omega)only[↓aa,ab,simprocAttr,sa,iX, *])
  all_goals try omega
 all_goals try
  refine af.mono (zb3 hD a e h1 (by omega) h3) ?_
  rintro _ Y3 ⟨tt,rfl,l3,p3,D3,E3⟩
  have hp:=p3.trans hp;have hE:=hE.trans E3;clear hD;have hD:=D3;clear e1 qA jh
  obtain⟨jh, -, -, -,full,gg,_,_,_,_,e1,qA, -⟩:=hD.eZ
  cases tt
  all_goals repeat'(first|(apply ao<;>intro)|apply bQ|refine az 17 [Fx,Fx,Fx,Fx,Fx,Fx,Fx,Fx,Fx,Fx,Fx,Fx,Fx,Fx,Fx] ?_|((with_reducible show af _ _ _ _ _);refine lI (mz _ _ _) ?_)|((with_reducible show Qs _ _ _ _ _);refine aD _ _ _ ?_)|simp(disch:=omega)only[↓aa,ab,simprocAttr,sa,iX, *])
  all_goals try omega
 all_goals try(exact hD.go hp hE)
 all_goals try
  refine af.mono (zb1 hD a e _ h1 (by omega) (by omega) h3) ?_
  rintro _ Y4 ⟨mid,hm,rfl,l4,p4,D4,E4⟩
  have hp:=p4.trans hp;have hE:=hE.trans E4;clear hD;have hD:=D4;clear e1 qA jh
  first
   |(have _g:pp=true:=qx;have _k:qq=true:=Es;refine hQ _ _ _ ?_ ⟨mid,e,aX,true,true,rfl,?_,?_,trivial,trivial,by omega,by omega,by omega,by omega,by omega,by omega,hD.go hp hE⟩<;>exact ay)
   |(have _g:pp=true:=qx;have _k:qq=false:=Es;refine hQ _ _ _ ?_ ⟨mid,e,aX,true,false,rfl,?_,?_,trivial,trivial,by omega,by omega,by omega,by omega,by omega,by omega,hD.go hp hE⟩<;>exact ay)
   |(have _g:pp=false:=qx;have _k:qq=true:=Es;refine hQ _ _ _ ?_ ⟨mid,e,aX-1,false,true,rfl,?_,?_,trivial,trivial,by omega,by omega,by omega,by omega,by omega,by omega,hD.go hp hE⟩<;>exact ay)
   |(have _g:pp=false:=qx;have _k:qq=false:=Es;refine hQ _ _ _ ?_ ⟨mid,e,aX-1,false,false,rfl,?_,?_,trivial,trivial,by omega,by omega,by omega,by omega,by omega,by omega,hD.go hp hE⟩<;>exact ay)
 all_goals
  refine af.mono (zb2 hD a e _ h1 (by omega) (by omega) h3) ?_
  rintro _ Y4 ⟨mid,Et,hm,rfl,l4,p4,D4,E4⟩
  have hp:=p4.trans hp;have hE:=hE.trans E4;clear hD;have hD:=D4;clear e1 qA jh
  have aj:=key _ _ 0 hp hD hE
  have hq8:(e-a).tdiv 8=(e-a)/8:=Int.tdiv_eq_ediv_of_nonneg (by omega)
  repeat'(first|(apply ao<;>intro)|simp(disch:=omega)only[↓aa,ab,simprocAttr,sa, *])
  all_goals try omega
  all_goals try
   have _g:pp=true:=qx
   refine af.mono (ih (mid-a).toNat (by omega) _ l4 aj hD a mid (aX) (by omega) (by omega) (by omega) (by omega) (by omega) (by omega)) ?_
   rintro _ Y5 ⟨rfl,xi⟩
   refine hQ _ _ _ ?_ ⟨mid+1,e,aX,decide ((e-a)/8≤mid-a),Et,rfl,?_,?_,trivial,trivial,by omega,by omega,by omega,by omega,by omega,by omega,xi.trans hp hE⟩<;>exact ay
  all_goals try
   have _g:pp=true:=qx
   refine af.mono (ih (e-mid-1).toNat (by omega) _ l4 aj hD (mid+1) e (aX) (by omega) (by omega) (by omega) (by omega) (by omega) (by omega)) ?_
   rintro _ Y5 ⟨rfl,xi⟩
   refine hQ _ _ _ ?_ ⟨a,mid,aX,decide ((e-a)/8≤e-mid),Et,rfl,?_,?_,trivial,trivial,by omega,by omega,by omega,by omega,by omega,by omega,xi.trans hp hE⟩<;>exact ay
  all_goals try
   have _g:pp=false:=qx
   refine af.mono (ih (mid-a).toNat (by omega) _ l4 aj hD a mid (aX-1) (by omega) (by omega) (by omega) (by omega) (by omega) (by omega)) ?_
   rintro _ Y5 ⟨rfl,xi⟩
   refine hQ _ _ _ ?_ ⟨mid+1,e,aX-1,decide ((e-a)/8≤mid-a),Et,rfl,?_,?_,trivial,trivial,by omega,by omega,by omega,by omega,by omega,by omega,xi.trans hp hE⟩<;>exact ay
  all_goals try
   have _g:pp=false:=qx
   refine af.mono (ih (e-mid-1).toNat (by omega) _ l4 aj hD (mid+1) e (aX-1) (by omega) (by omega) (by omega) (by omega) (by omega) (by omega)) ?_
   rintro _ Y5 ⟨rfl,xi⟩
   refine hQ _ _ _ ?_ ⟨a,mid,aX-1,decide ((e-a)/8≤e-mid),Et,rfl,?_,?_,trivial,trivial,by omega,by omega,by omega,by omega,by omega,by omega,xi.trans hp hE⟩<;>exact ay
  all_goals trace_state
theorem zbL{b g:Nat}(H:Heap)(hx:H.lo≤H.next)(v:Value)(l:List Int)(h:DS b g H v l):af E (aC 66) [v] H fun w H'=>w= .tuple #[]∧SD b g H H' v l:=by
 obtain⟨r,k,_,_,rfl, -⟩:=id h.1
 obtain⟨-,hn, -⟩:=h.eZ
 have hw:IntKind.u64.wrap (l.length:Int)=l.length:=wrap_u64 (by omega) (by omega)
 refine aQ Tryz.f66 ?_
 simp only[Tryz.f66]
 simp(disch:=omega)only[↓aa,ab,simprocAttr,sa, *]
 refine af.mono (Iv H l.length (by omega)) ?_
 rintro _ _ ⟨⟨L,rfl, -, -,hL⟩,rfl⟩
 repeat'(first|(apply ao<;>intro)|apply bQ|refine kV (fun _=>?_) (fun _=>?_)|((with_reducible show Qs _ _ _ _ _);first|refine ai _ _ _ _ ?_|refine aD _ _ _ ?_)|simp(disch:=omega)only[↓aa,ab,simprocAttr,sa, *])
 refine af.mono (zck l.length _ l hx h 0 l.length L (by omega) (by omega) (by omega) (by omega) (by omega) (by omega)) ?_
 rintro _ Z ⟨rfl,hZ⟩
 simp(disch:=omega)only[↓aa,ab,simprocAttr,sa, *]
 all_goals first|exact hZ|trace_state
end Go.AM
