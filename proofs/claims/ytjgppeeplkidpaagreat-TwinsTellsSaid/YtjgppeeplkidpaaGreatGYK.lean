/-
  Walks over letters of the functions that the law reaches; written small by a program of mine.
-/
import Derived.Test.YtjgppeeplkidpaaGreatGV8
import Derived.Test.YtjgppeeplkidpaaGreatGV5
import Derived.Test.YtjgppeeplkidpaaGreatGYN
import Derived.Test.YtjgppeeplkidpaaGreatGM1
import Derived.Test.YtjgppeeplkidpaaGreatGV4
import Derived.Test.YtjgppeeplkidpaaGreatGYA
set_option linter.unusedVariables false
set_option linter.unusedSectionVars false
namespace Go.AM
attribute [local instance] fnMaps
open Go Go.Proofs
set_option maxRecDepth 100000
set_option maxHeartbeats 4000000
set_option linter.unusedSimpArgs false
theorem OE.cJ{b z n:Nat}{H H':Heap}{v:Value}{cs:List Value}(h:OE b z H v n cs)(s:Ko H H'):OE b z H' v n cs:=by
 rcases h with⟨go,h⟩|⟨h1,h2,q,h3,h4,h5,h6⟩
 ·exact .inl ⟨go,h.ko s⟩
 ·exact .inr ⟨h1,h2,q,h3,h4,wq h5 s.ag,(s.objs q h5).trans h6⟩
theorem E2{b z:Nat}{H:Heap}(hb:b≤H.next)(part:List Value):im b H.next H (H.dd z part):=
 ⟨Bs z part,by rw[gH];omega,fun x hx=>⟨by rw[jj,au (by omega)];rfl,by rw[lz,au (by omega)];rfl⟩,fun x o hx ho _=>by rw[jj,au (by omega)];exact ho,fun y hy _=>by rw[lz,au (by omega)];rfl⟩
theorem OE.app{b z n bytes:Nat}{H:Heap}{v:Value}{cs part:List Value}(h:OE b z H v n cs)(hb:b≤H.next)(an:H.lo≤b)(hp:part.length=z)(hc:part.all isCell=true)(bf:eu z bytes (n+1)=true):
  ∃v' H' g',appendT z bytes H v 1 part=some (v',H')∧OE b z H' v' (n+1) (cs++part)∧im b g' H H':=by
 rcases h with⟨go,h⟩|⟨rfl,rfl,q,rfl,h4,h5,h6⟩
 ·obtain⟨v',H',g',h1,h2,h3,_⟩:=h.app hb an hp hc bf
  exact⟨v',H',g',h1,.inl ⟨_,h2⟩,h3⟩
 ·refine⟨_,_,H.next,vR h6 (by decide) bf,.inl ⟨some H.next,?_⟩,E2 hb part⟩
  rw[wL]
  exact OS.dd hb (by decide) (by omega)
theorem OE.reads{b z n:Nat}{α:Type}{R:Heap→List Value→α→Prop}{l:List α}{H:Heap}{v:Value}{cs:List Value}(h:OE b z H v n cs)(hl:l.length=n)(bj:n≤1000000000)(hR:cY R z H cs l):SLr R z H v l:=by
 rcases h with⟨go,h⟩|⟨rfl,rfl,q,rfl,h4,h5,h6⟩
 ·exact h.reads hl bj hR
 ·have:l=[]:=wac hl
  subst this
  refine⟨⟨_,0,rfl,⟨wy _,wJ _⟩,fun i x h=>by simp at h⟩,fun a m c e=>?_⟩
  simp only[waq]at e
  obtain⟨rfl,_,_⟩:=e
  exact .inr ⟨q,[],_,_,rfl,h5,h6⟩
theorem zgv(H:Heap)(an:H.lo≤H.next){s:St}{w t f zl:Value}(hS:eK H s w t f zl)(cd:nj s)(hl:s.words.length≤400)(jI:s.table.length≤100):af E (aK 60) [cz s w t f zl] H fun r H'=>
  ((dR s=0→∃ v,r= .tuple #[v,.int .i64 0]∧SLr (RInt .i64) 1 H' v (aS s))∧(dR s≠0→r= .tuple #[.slice none 0 0,.int .i64 4]))∧aq H H':=by
 have c1:=fun(X:Heap) (hx:X.lo≤X.next) (k:Ko H X)=>zbl X hx (hS.ko k) cd
 have qG:=hS.t
 obtain⟨⟨wa,wc,rfl,_⟩,_⟩:=hS.w
 obtain⟨⟨ta,tc,rfl,⟨_,Dc⟩,hta⟩,_⟩:=hS.t
 obtain⟨⟨fa,fc,rfl,_⟩,_⟩:=hS.f
 obtain⟨⟨za,zc,rfl,_⟩,_⟩:=hS.sl
 clear hS
 unfold cz at c1
 refine aV Tryz.f60 ?_
 simp only[Tryz.f60]
 unfold cz
 simp(disch:=omega)only[↓aa,ab,simprocAttr,sa, *]
 refine af.mono (c1 _ ah aj) ?_
 rintro _ Y ⟨lp,rfl,h1,h2,sY,PY⟩
 have kY:Ko H Y:=Ko.call aj sY
 have lY:=sY.lo;have nY:=sY.ag;have gY:=sY.objs
 simp(disch:=omega)only[sm,sl]at h1 lY nY gY
 have bY:=gY H.next (by omega)
 clear sY gY
 by_cases h0:dR s=0
 ·obtain⟨a,zn,m,dK,hk⟩:=PY h0
  have aC:=hk.row
  have fF:=hk.small
  rw[h0]
  unfold gm at aC
  have c2:=fun(X:Heap) (hx:X.lo≤X.next) (k:Ko Y X)=>zgu X hx dK (cP s).1 (fF.ko (RInt.mono _) k) (by have:=uC s;omega)
  simp(disch:=omega)only[↓aa,ab,simprocAttr,sa, *]
  all_goals try omega
  refine af.mono (c2 _ ah aj) ?_
  rintro v0 Z ⟨hO,sZ⟩
  have kZ:Ko H Z:=kY.call sZ
  have lZ:=sZ.lo;have nZ:=sZ.ag
  have bZ:=(sZ.objs H.next (by omega)).trans bY
  have m0:isCell v0=true:=by
   rcases hO with⟨go,h⟩|⟨_,_,q,h,_⟩
   ·cases go with
    |none=>rw[h.1];rfl
    |some g=>obtain⟨_,_,_,_,h,_⟩:=h;rw[h];rfl
   ·rw[h];rfl
  clear c1 c2 fF aC PY bY hk
  simp(disch:=omega)only[↓aa,ab,simprocAttr,sa, *]
  all_goals try omega
  refine bP Z [6,22,23,24] (fun T1 H1 u1 j1 n1 l1 g1=>?_) aj
  try simp(disch:=omega)only[sm,sl]at n1 l1 g1
  simp only[sq,simprocAttr]at u1
  refine bL kq (fun nn T X=>∃ (i:Nat) (v:Value),nn=s.table.length-i∧(T.get 6=some (v)∧T.get 24=some (.int .i64 i))∧(T.get 22=T1.get 22∧T.get 23=T1.get 23)∧True∧True∧(i≤s.table.length∧OE Y.next 1 X v ((cP s).1.length+i) (((cP s).1++(s.table.take i).map (·.ae)).map cx)∧aq Y X)) ?_ ?_
  ·have nu:=hO.cJ j1
   rw[←waw (cP s).1]at nu
   refine⟨_,0,_,rfl,?_,?_,trivial,trivial,wJ _,by simpa using nu,sZ.trans (j1.same l1)⟩<;>exact aJ
  rintro nn dA X1 ⟨i,vo,rfl,m1,w1,_,_,hi,nu,BY⟩ Qs hQ aG ai
  have kX:=kY.trans BY.ko
  have lX:=BY.lo;have nX:=BY.ag
  by_cases hlt:i<s.table.length
  ·obtain⟨r,o,cells,gg,tt,part,rfl,hr,aC,aR,rfl⟩:=hta i s.table[i] (by simp)
   have a1:=bn hlt
   have e1:=(kX.objs r hr).trans aC
   have iy:s.table.take (i+1)=s.table.take i++[s.table[i]]:=by rw[wR,wj hlt];rfl
   generalize s.table[i]=x at*
   have sl1:=uC s
   have eM:=nu.cJ (H':=((X1.newRow [.int .i64 0,.int .i64 0]).setRow X1.next [.int .i64 x.ae,.int .i64 x.size]).newRow [.int .i64 x.ae]) aj
   obtain⟨v4,H4,g4,ha4,mo,kJ⟩:=eM.app (bytes:=8) (part:=[.int .i64 x.ae]) (by simp(disch:=omega)only[ay,aN,az,aF,aE,aB,aM,aO,aQ,aP,aL,aD,aH,au,sl];omega) (by simp(disch:=omega)only[ay,aN,az,aF,aE,aB,aM,aO,aQ,aP,aL,aD,aH,au,sl];omega) rfl rfl (mU (by omega))
   have PZ:aq Y H4:=⟨by rw[kJ.lo];simp(disch:=omega)only[ay,aN,az,aF,aE,aB,aM,aO,aQ,aP,aL,aD,aH,au,sl];omega,by have:=kJ.ag;simp(disch:=omega)only[sm,sl]at this;omega,fun y hy=>by rw[(kJ.below y hy).1];simp(disch:=omega)only[ay,aN,az,aF,aE,aB,aM,aO,aQ,aP,aL,aD,aH,au,sl];exact BY.objs y hy,fun y hy=>by rw[(kJ.below y hy).2];simp(disch:=omega)only[ay,aN,az,aF,aE,aB,aM,aO,aQ,aP,aL,aD,aH,au,sl];exact BY.grps y hy⟩
   have hl4:((cP s).1++(s.table.take i).map (·.ae)).map cx++[.int .i64 x.ae]=((cP s).1++(s.table.take (i+1)).map (·.ae)).map cx:=by
    rw[iy];simp[cx]
   rw[hl4,wbH]at mo
   have lo4:=PZ.lo
   clear nu eM iy hl4 kJ
   repeat'(first|(apply ak<;>intro)|((with_reducible show Qs _ _ _ _ _);refine ai _ _ _ _ ?_)|simp(disch:=omega)only[↓aa,ab,simprocAttr,sa,cw,iG,dW,waV,waZ,waw,wY,waA, *])
   all_goals first|(refine hQ _ _ _ ?_ ⟨i+1,v4,rfl,?_,?_,trivial,trivial,by omega,mo,PZ⟩<;>exact aJ)|omega|trace_state
  ·have ei:i=s.table.length:=by omega
   rw[ei,waj]at nu
   have hR:=nu.reads (l:=aS s) (by unfold aS;rw[wN,wO]) (by have:=uC s;omega) (Jd X1 (aS s))
   have zi8:isCell vo=true:=by
    rcases nu with⟨go,h⟩|⟨_,_,q,h,_⟩
    ·cases go with
     |none=>rw[h.1];rfl
     |some g=>obtain⟨_,_,_,_,h,_⟩:=h;rw[h];rfl
    ·rw[h];rfl
   clear nu
   repeat'(first|(apply ak<;>intro)|((with_reducible show Qs _ _ _ _ _);refine ai _ _ _ _ ?_)|simp(disch:=omega)only[↓aa,ab,simprocAttr,sa, *])
   all_goals try omega
   refine⟨?_,aA⟩
   first|exact⟨fun _=>⟨_,rfl,hR⟩,fun q=>absurd rfl q⟩|exact⟨_,rfl,hR⟩|exact⟨fun _=>⟨_,rfl,hR⟩,fun q=>q.elim⟩
 ·have hd:decide (dR s=0)=false:=wx h0
  simp(disch:=omega)only[↓aa,ab,simprocAttr,sa, *]
  all_goals try omega
  refine⟨?_,aA⟩
  first|exact⟨fun q=>absurd q h0,fun _=>rfl⟩|exact⟨fun q=>q.elim,fun _=>trivial⟩
theorem zg1(H:Heap)(an:H.lo≤H.next)(v:Value)(hv:SLr RW 1 H v []):af E (aK 64) [v] H fun r H'=>OE H.next 1 H' r 0 []∧aq H H':=by
 obtain⟨hs,hr⟩:=hv
 have sN:aq H (H.newRow []):=eO _
 obtain⟨a,c,cs,rfl,eJ,om⟩:=(hs.mono RW.mono sN).vJ (hr.same sN)
 rw[waY]at eJ
 have eD:=Ic om
 subst eD
 have lU:(H.newRow []).objs.get H.next=some (.row [] none true):=by simp(disch:=omega)only[ay,aN,az,aF,aE,aB,aM,aO,aQ,aP,aL,aD,aH,au,sl]
 refine aV Tryz.f64 ?_
 simp only[Tryz.f64]
 cases a with
 |none=>
  simp(disch:=omega)only[↓aa,ab,simprocAttr,sa,wcy, *]
  exact⟨.inl ⟨none,OS.nil _ _ _⟩,aA⟩
 |some a=>
  simp only[waA]at eJ
  have cK:=BC (z:=1) (b:=8) (H:=H.newRow []) ⟨H.next,0,none⟩ 0 rfl (([]:List Nat).map wV)
  simp(disch:=omega)only[↓aa,ab,simprocAttr,sa,Er,cw,dW,waA, *]
  exact .inr ⟨rfl,rfl,H.next,rfl,wy _,by simp(disch:=omega)only[ay,aN,az,aF,aE,aB,aM,aO,aQ,aP,aL,aD,aH,au,sl];omega,lU⟩
theorem zg2(H:Heap)(an:H.lo≤H.next)(v:Value)(ws:List Nat)(hv:SLr RW 1 H v ws)(hl:ws.length≤100000):af E (aK 64) [v] H fun r H'=>OE H.next 1 H' r ws.length (ws.map wV)∧aq H H':=by
 by_cases aX:ws=[]
 ·subst aX
  exact zg1 H an v hv
 ·refine(Ou H an v ws hv aX hl).mono ?_
  rintro _ Y ⟨zn,rfl,h1,h2,h3,h4,sY⟩
  exact⟨.inl ⟨some zn,zn,ws.length,ws.map wV,[],rfl,⟨wy _,by omega⟩,by simp,by rw[waY,wZ (by simp)],h3,h4,h1,h2,h1,h2,fun x hx=>(by cases hx),by simp⟩,sY⟩
theorem xC(l:List bu):(l.flatMap bF).length=l.length*2:=by
 induction l with
 |nil=>rfl
 |cons x l ih=>rw[wbm,wN,ih,wY];simp only[bF,wY,waA];omega
theorem Jt:∀ (l:List bu) (i:Nat) (x:bu),l[i]? =some x→cut (l.flatMap bF) (i*2) 2=some (bF x)
 |[],i,x,h=>by simp at h
 |y::l,0,x,h=>by
  simp only[wQ,wi]at h
  subst h
  rw[du,wbm,wF (by simp[bF])]
  simp[bF]
 |y::l,i+1,x,h=>by
  have ih:=Jt l i x (by simpa using h)
  have hi:=(wD.1 h).1
  rw[wY]at hi
  rw[du,xC,wF (by omega)]at ih
  rw[du,xC,wY,wF (by omega),←ih]
  simp only[wbm,bF,wat,wL,waW,waV]
theorem xD{H:Heap}{l:List bu}:cY cQ 2 H (l.flatMap bF) l:=⟨xC l,fun i x hx=>⟨_,Jt l i x hx,rfl⟩⟩
theorem zg3{H:Heap}{cs:List Value}{l:List bu}(h:cY cQ 2 H cs l):cs=l.flatMap bF:=by
 obtain⟨h1,h2⟩:=h
 refine waR fun j=>?_
 have hl:=xC l
 by_cases hj:j<l.length*2
 ·obtain⟨part,hp,cU⟩:=h2 (j/2) l[j/2] (wj (by omega))
  have hq:=Jt l (j/2) l[j/2] (wj (by omega))
  rw[du,wF (by omega)]at hp hq
  have e:=(waH hp).trans (cU.trans (waH hq).symm)
  have e2:=congrArg (fun t:List Value=>t[j%2]?) e
  simp only[wab,wae,wF (show j%2<2 by omega),show j/2*2+j%2=j by omega]at e2
  exact e2
 ·rw[wak (by omega),wak (by omega)]
theorem Qv(d:Nat)(a:Addr)(n c n' c':Nat):eqV E (d+1) 60 (.slice (some a) n c) (.slice none n' c')=some false:=kq
theorem Qw(H:Heap)(an:H.lo≤H.next)(v:Value)(l:List bu)(hv:SLr cQ 2 H v l)(hl:l.length≤100000):af E (aK 231) [v] H fun r H'=>OE H.next 2 H' r l.length (l.flatMap bF)∧aq H H':=by
 obtain⟨hs,hr⟩:=hv
 have sN:aq H (H.newRow []):=eO _
 obtain⟨a,c,cs,rfl,eJ,om⟩:=(hs.mono cQ.mono sN).vJ (hr.same sN)
 have lU:(H.newRow []).objs.get H.next=some (.row [] none true):=by simp(disch:=omega)only[ay,aN,az,aF,aE,aB,aM,aO,aQ,aP,aL,aD,aH,au,sl]
 have eD:=zg3 om
 subst eD
 refine aV Tryz.f231 ?_
 simp only[Tryz.f231]
 cases a with
 |none=>
  have e0:l=[]:=by
   cases l with
   |nil=>rfl
   |cons x l=>
    obtain⟨a',c',e,_,h⟩:=hs
    simp only[waq]at e
    obtain⟨r,o,_,_,_,_,h0,_⟩:=h 0 x rfl
    rw[h0]at e
    cases e.1
  subst e0
  simp(disch:=omega)only[↓aa,ab,simprocAttr,sa,wcy, *]
  exact⟨.inl ⟨none,OS.nil _ _ _⟩,aA⟩
 |some a=>
  by_cases aX:l.length=0
  ·have e0:l=[]:=wac aX
   subst e0
   simp only[waA]at eJ
   have cK:=BC (z:=2) (b:=16) (H:=H.newRow []) ⟨H.next,0,none⟩ 0 rfl (([]:List bu).flatMap bF)
   simp(disch:=omega)only[↓aa,ab,simprocAttr,sa,Qv,cw,dW,waA, *]
   exact .inr ⟨rfl,rfl,H.next,rfl,wy _,by simp(disch:=omega)only[ay,aN,az,aF,aE,aB,aM,aO,aQ,aP,aL,aD,aH,au,sl];omega,lU⟩
  ·have cK:=vR (z:=2) (b:=16) (k:=l.length) (new:=l.flatMap bF) lU aX (by simp[eu,kV,cw];omega)
   simp(disch:=omega)only[↓aa,ab,simprocAttr,sa,Qv,cw,dW, *]
   have g:=uk (b:=H.next) (H:=H.newRow []) (by simp(disch:=omega)only[ay,aN,az,aF,aE,aB,aM,aO,aQ,aP,aL,aD,aH,au,sl];omega) 2 (l.flatMap bF)
   have hO:=OS.dd (b:=H.next) (z:=2) (n:=l.length) (H:=H.newRow []) (cs:=l.flatMap bF) (by simp(disch:=omega)only[ay,aN,az,aF,aE,aB,aM,aO,aQ,aP,aL,aD,aH,au,sl];omega) (by omega) (xC l)
   simp(disch:=omega)only[sm,sl]at hO
   exact⟨.inl ⟨_,hO⟩,g.same sN (wy _)⟩
theorem zgR{l:List Int}{x:Int}{i:Nat}(h:i<l.length)(hn:l[i]≠x)(he:l.idxOf x=i+(l.drop i).idxOf x):l.idxOf x=i+1+(l.drop (i+1)).idxOf x:=by
 rw[he,wX h,wb3,beq_eq_false_iff_ne.2 hn,wS]
 omega
theorem zgS{l:List Int}{x:Int}{i:Nat}(h:i<l.length)(hn:l[i]=x)(he:l.idxOf x=i+(l.drop i).idxOf x):l.idxOf x=i:=by
 rw[he,wX h,wb3,wbO.2 hn,wai,waX]
theorem Qk(H:Heap)(an:H.lo≤H.next)(v:Value)(all:List Int)(hv:SLr (RInt .i64) 1 H v all)(w:Nat)(hw:w<2^64)(hl:uD all w):af E (aK 71) [v,.int .u64 w] H fun r H'=>r=cZ (eh all w)∧aq H H':=by
 obtain⟨u,hu,hm⟩:=hl
 have c1:=fun(X:Heap) (hx:X.lo≤X.next)=>uy X hx w hw
 have ht:eh all w=if u.kind=2 then⟨2,(all.idxOf u.x:Nat)⟩else u:=by unfold eh;rw[hu];rfl
 rw[hu]at c1
 simp only[wbr,wb1,wah]at c1
 clear hu
 obtain⟨⟨a,ca,rfl,⟨_,ft⟩,bs⟩, -⟩:=hv
 obtain⟨R,hR⟩:∃ R,eh all w=R:=⟨_,rfl⟩
 rw[hR]at ht⊢
 clear hR
 have hH:Hid (R=if u.kind=2 then⟨2,(all.idxOf u.x:Nat)⟩else u):=ht
 clear ht
 unfold cZ at c1⊢
 refine aV Tryz.f71 ?_
 simp only[Tryz.f71]
 repeat'(first|((with_reducible show af _ _ _ _ _);refine ao H (c1 _ ah) ?_;intro H2 k2 l2 n2 g2 q2;try simp(disch:=omega)only[sm,sl]at l2 n2 g2 q2)|simp(disch:=omega)only[↓aa,ab,simprocAttr,sa, *])
 have h0:u.kind=2→all.idxOf u.x=0+(all.drop 0).idxOf u.x:=fun _=>by rw[wau,waZ]
 refine bP H [0,4,5,7] (fun T1 H1 u1 k1 n1 l1 g1=>?_) aj
 try simp(disch:=omega)only[sm,sl]at n1 l1 g1
 simp only[sq,simprocAttr]at u1
 refine bL kq (fun nn T X=>∃ i:Nat,nn=all.length-i∧(T.get 7=some (.int .i64 i))∧(T.get 0=T1.get 0∧T.get 4=T1.get 4∧T.get 5=T1.get 5)∧Ko H1 X∧X.lo=H1.lo∧(i≤all.length∧(u.kind=2→all.idxOf u.x=i+(all.drop i).idxOf u.x))) ?_ ?_
 ·refine⟨_,0,rfl,?_,?_,Ko.refl _,rfl,⟨wJ _,h0⟩⟩<;>exact aJ
 clear h0
 rintro nn dA X1 ⟨i,rfl,m1,w1,kx1,eQ,⟨hi,hE⟩⟩ Qs hQ aG ai
 have bz:=k1.trans kx1;have dZ:=kx1.ag;have ed:=kx1.objs
 have b4:=ed H.next (by omega)
 have b5:=ed H2.next (by omega)
 rw[g1]at b4 b5
 simp(disch:=omega)only[sm,sl]at b4 b5
 rw[g2 H.next (by omega)]at b4
 simp(disch:=omega)only[sm,sl]at b4
 have ht:R=if u.kind=2 then⟨2,(all.idxOf u.x:Nat)⟩else u:=hH
 clear hH
 by_cases hk:u.kind=2
 ·have bM:=hE hk
  have Jn:=hm hk
  rw[wF hk]at ht
  have dL:decide (u.kind=2)=true:=wz hk
  by_cases hlt:i<all.length
  ·obtain⟨r,o,cells,gg,tt,part,rfl,hr,aC,aR,rfl⟩:=bs i all[i] (by simp)
   have a1:=bn hlt
   have e1:=bz.objs r hr
   have q0:=jS aR
   by_cases hx:all[i]=u.x
   ·have hI:=zgS hlt hx bM
    rw[hI]at ht
    have hd:decide (u.x=u.x)=true:=wz rfl
    rw[hx]at q0
    clear hx hE bM hm Jn hk hI
    repeat'(first|(apply ak<;>intro)|refine aw 5 [Fx,Fx,Fx,Fx,Fx,Fx,Fx,Fx,Fx,Fx,Fx,Fx] ?_|((with_reducible show Qs _ _ _ _ _);first|refine ai _ _ _ _ ?_|refine aG _ _ _ ?_)|simp(disch:=omega)only[↓aa,ab,simprocAttr,sa, *])
    all_goals first|exact xW|omega|trace_state
   ·have hI:=zgR hlt hx bM
    have hd:decide (u.x=all[i])=false:=wx fun q=>hx q.symm
    have Jo:u.kind=2→all.idxOf u.x=i+1+(all.drop (i+1)).idxOf u.x:=fun _=>hI
    generalize all[i]=z at*
    clear hx hE bM hm Jn hk hI
    repeat'(first|(apply ak<;>intro)|refine aw 5 [Fx,Fx,Fx,Fx,Fx,Fx,Fx,Fx,Fx,Fx,Fx,Fx] ?_|((with_reducible show Qs _ _ _ _ _);refine ai _ _ _ _ ?_)|simp(disch:=omega)only[↓aa,ab,simprocAttr,sa, *])
    all_goals first|(refine hQ _ _ _ ?_ ⟨i+1,rfl,?_,?_,?_,?_,⟨by omega,Jo⟩⟩<;>exact aJ)|omega|trace_state
  ·exfalso
   rw[waO (by omega)]at bM
   have:=wb6 Jn
   rw[List.idxOf_nil]at bM
   omega
 ·rw[wI hk]at ht
  have dL:decide (u.kind=2)=false:=wx hk
  have Jo:u.kind=2→all.idxOf u.x=i+1+(all.drop (i+1)).idxOf u.x:=fun q=>absurd q hk
  clear hE hm hk
  by_cases hlt:i<all.length
  ·obtain⟨r,o,cells,gg,tt,part,rfl,hr,aC,aR,rfl⟩:=bs i all[i] (by simp)
   have a1:=bn hlt
   have e1:=bz.objs r hr
   repeat'(first|(apply ak<;>intro)|refine aw 5 [Fx,Fx,Fx,Fx,Fx,Fx,Fx,Fx,Fx,Fx,Fx,Fx] ?_|((with_reducible show Qs _ _ _ _ _);refine ai _ _ _ _ ?_)|simp(disch:=omega)only[↓aa,ab,simprocAttr,sa, *])
   all_goals first|(refine hQ _ _ _ ?_ ⟨i+1,rfl,?_,?_,?_,?_,⟨by omega,Jo⟩⟩<;>exact aJ)|omega|trace_state
  ·repeat'(first|(apply ak<;>intro)|refine aw 5 [Fx,Fx,Fx,Fx,Fx,Fx,Fx,Fx,Fx,Fx,Fx,Fx] ?_|((with_reducible show Qs _ _ _ _ _);refine ai _ _ _ _ ?_)|simp(disch:=omega)only[↓aa,ab,simprocAttr,sa, *])
   all_goals first|exact xW|omega|trace_state
def jq:List Int→Nat→List (Value×Value)
 |[],_=>[]
 |a::l,n=>(.int .i64 a,.int .i64 n)::jq l (n+1)
theorem P0(k:Int):∀ (l:List Int) (n:Nat),jq l n++[(.int .i64 k,.int .i64 (n+l.length:Nat))]=jq (l++[k]) n
 |[],n=>rfl
 |a::l,n=>by
  show(_::(jq l (n+1)++_))=_::jq (l++[k]) (n+1)
  rw[←P0 k l (n+1),wY,show n+1+l.length=n+(l.length+1) by omega]
theorem Je{k:Int}:∀ {l:List Int} (n i:Nat),k∈l→findV (.int .i64 k) (jq l n) i=some (some (i+l.idxOf k,.int .i64 (n+l.idxOf k:Nat)))
 |a::l,n,i,h=>by
  by_cases e:k=a
  ·subst e
   simp[jq,findV,keyEq,sameKind,gF]
  ·have h':k∈l:=(wad.1 h).resolve_left e
   have:keyEq (.int .i64 k) (.int .i64 a)=some false:=by simp[keyEq,sameKind,gF,e]
   simp only[jq,findV,this,wo]
   rw[wb3,beq_eq_false_iff_ne.2 (fun q=>e q.symm),wS]
   refine(Je (n+1) (i+1) h').trans ?_
   congr 3
   ·omega
   ·congr 2;omega
theorem Jf{k:Int}:∀ {l:List Int} (n i:Nat),k∉l→findV (.int .i64 k) (jq l n) i=some none
 |[],_,_,_=>rfl
 |a::l,n,i,h=>by
  have e:k≠a:=fun e=>h (e▸wW ..)
  have:keyEq (.int .i64 k) (.int .i64 a)=some false:=by simp[keyEq,sameKind,gF,e]
  simp only[jq,findV,this,wo]
  exact Jf (n+1) (i+1) fun h'=>h (wM _ h')
theorem P1(H:Heap)(r:Nat)(k:Int)(v:Value):mapUpdateV E H 112 (.map (some r)) (.int .i64 k) v=sy H (H.objs.get r) r (.int .i64 k) v:=kq
theorem zgw(H:Heap)(r:Nat)(k:Int):lookupV E H 112 (.map (some r)) (.int .i64 k) false=sC (H.objs.get r) (.int .i64 k) (.int .i64 0):=kq
theorem zgx{l:List Int}{k:Int}(h:k∈l):sC (some (.map (jq l 0))) (.int .i64 k) (.int .i64 0)=some (.int .i64 (l.idxOf k:Nat)):=by
 rw[sC]
 simp only[wo,Je 0 0 h]
 rw[wau]
theorem P2{H:Heap}{r:Nat}{l:List Int}(hl:H.lo≤r){k:Int}(h:k∉l):sy H (some (.map (jq l 0))) r (.int .i64 k) (.int .i64 (l.length:Nat))=some (H.setObj r (.map (jq (l++[k]) 0))):=by
 rw[sy]
 have hb:(!Nat.ble H.lo r)=false:=by simpa using hl
 have e:=P0 k l 0
 rw[wau]at e
 simp only[wo,Jf 0 0 h,Heap.pv,hb,wS,Tr.force_eq,Heap.setObj,e]
theorem zgy:E.fn.get 61=some Tryz.f61:=kq
theorem P3(H:Heap)(an:H.lo≤H.next){bx m:Nat}{all:List Int}(hB:H.objs.get bx=some (.row [.map (some m)] none true))(hM:H.objs.get m=some (.map (jq all 0)))(l1:bx<H.next)(l2:m<H.next)(w:Nat)(hw:w<2^64)(hl:uD all w):af E (.func (.func 61) #[] #[ptr bx 0]) [.int .u64 w] H fun r H'=>r=cZ (eh all w)∧aq H H':=by
 obtain⟨u,hu,hm⟩:=hl
 have c1:=fun(X:Heap) (hx:X.lo≤X.next)=>yR X hx w hw
 have ht:eh all w=if u.kind=2 then⟨2,(all.idxOf u.x:Nat)⟩else u:=by unfold eh;rw[hu];rfl
 rw[hu]at c1
 simp only[wbr,wb1,wah]at c1
 rw[ht]
 clear hu ht
 unfold cZ at c1⊢
 refine yN kq zgy rfl rfl ?_
 simp only[Tryz.f61]
 by_cases hk:u.kind=2
 ·have Np:=zgx (hm hk)
  have dL:decide (u.kind=2)=true:=wz hk
  rw[wF hk]
  clear hm
  have yJ:u.kind=2:=hk
  clear hk
  repeat'(first|((with_reducible show af _ _ _ _ _);refine ao H (c1 _ ah) ?_;intro H2 k2 l2 n2 g2 q2;try simp(disch:=omega)only[sm,sl]at l2 n2 g2 q2)|simp(disch:=omega)only[↓aa,ab,simprocAttr,sa,wL,wat,zgw,KR, *])
  exact aA
 ·have dL:decide (u.kind=2)=false:=wx hk
  rw[wI hk]
  clear hm hk
  repeat'(first|((with_reducible show af _ _ _ _ _);refine ao H (c1 _ ah) ?_;intro H2 k2 l2 n2 g2 q2;try simp(disch:=omega)only[sm,sl]at l2 n2 g2 q2)|simp(disch:=omega)only[↓aa,ab,simprocAttr,sa,wL,wat, *])
  all_goals exact bq
structure gA(H H':Heap):Prop where
 ag:H.next≤H'.next
 bK:∀ x cells g t,x<H.next→H.objs.get x=some (.row cells (some g) t)→∃ t',H'.objs.get x=some (.row cells (some g) t')
 rows:∀ x cells g t,x<H.next→H.objs.get x=some (.row cells g t)→∃ cells' g' t',H'.objs.get x=some (.row cells' g' t')
theorem Ext.g{H H':Heap}(h:Ext H H'):gA H H':=⟨h.ag,fun x c g t hx ho=>h.rows x c _ t hx ho,fun x c g t hx ho=>let⟨t',h1⟩:=h.rows x c _ t hx ho;⟨c,g,t',h1⟩⟩
theorem gA.trans{H H' ki:Heap}(h:gA H H')(h':gA H' ki):gA H ki:=
 ⟨wK h.ag h'.ag,fun x c g t hx ho=>let⟨t',h1⟩:=h.bK x c g t hx ho;h'.bK x c g t' (wq hx h.ag) h1,
   fun x c g t hx ho=>let⟨c',g',t',h1⟩:=h.rows x c g t hx ho;h'.rows x c' g' t' (wq hx h.ag) h1⟩
theorem ox{H:Heap}{p:Nat}{c c':List Value}{t:Bool}(hp:H.objs.get p=some (.row c none t)):gA H (H.setRow p c'):=by
 refine⟨wy _,fun x d g t' hx ho=>?_,fun x d g t' hx ho=>?_⟩
 ·have:x≠p:=fun e=>by rw[e,hp]at ho;simp at ho
  exact⟨t',by rw[ay,au this];exact ho⟩
 ·by_cases e:x=p
  ·exact⟨c',none,true,by rw[ay,cr e];rfl⟩
  ·exact⟨d,g,t',by rw[ay,au e];exact ho⟩
theorem Ko.ia{H H':Heap}(h:Ko H H'):gA H H':=⟨h.ag,fun x c g t hx ho=>⟨t,h.keeps hx ho⟩,fun x c g t hx ho=>⟨c,g,t,h.keeps hx ho⟩⟩
def Cj{α:Type}(R:Heap→List Value→α→Prop):Prop:=∀ H H' part x,gA H H'→R H part x→R H' part x
theorem oe.g{H H':Heap}{v:Value}(h:oe H v)(hs:gA H H'):oe H' v:=by
 intro a l c e
 rcases h a l c e with h|⟨r,cells,g,t,h1,h2,h3⟩
 ·exact .inl h
 ·obtain⟨c',g',t',h4⟩:=hs.rows r cells g t h2 h3
  exact .inr ⟨r,c',g',t',h1,wq h2 hs.ag,h4⟩
def eN{α:Type}(R:Heap→List Value→α→Prop)(z:Nat)(H:Heap)(v:Value)(l:List α):Prop:=
 (∃a cap,v= .slice a l.length cap∧(l.length≤cap∧l.length≤9223372036854775807)∧∀ i x,l[i]? =some x→∃ r o cells g t part,a=some ⟨r,o,none⟩∧r<H.next∧H.objs.get r=some (.row cells (some g) t)∧cut cells (o+i*z) z=some part∧R H part x)∧oe H v
section
variable{α:Type}{R:Heap→List Value→α→Prop}{z:Nat}{H H':Heap}{v:Value}{l:List α}
theorem eN.qX(h:eN R z H v l):SLr R z H v l:=by
 obtain⟨⟨a,cap,h1,h2,h3⟩,hr⟩:=h
 refine⟨⟨a,cap,h1,h2,fun i x hi=>?_⟩,hr⟩
 obtain⟨r,o,cells,g,t,part,h4⟩:=h3 i x hi
 exact⟨r,o,cells,_,t,part,h4⟩
theorem eN.ext(hR:Cj R)(h:eN R z H v l)(hs:gA H H'):eN R z H' v l:=by
 obtain⟨⟨a,cap,h1,h2,h3⟩,hr⟩:=h
 refine⟨⟨a,cap,h1,h2,fun i x hi=>?_⟩,hr.g hs⟩
 obtain⟨r,o,cells,g,t,part,h4,h5,h6,h7,h8⟩:=h3 i x hi
 obtain⟨t',h9⟩:=hs.bK r cells g t h5 h6
 exact⟨r,o,cells,g,t',part,h4,wq h5 hs.ag,h9,h7,hR _ _ _ _ hs h8⟩
theorem eN.cell(h:eN R z H v l):isCell v=true:=by
 obtain⟨⟨a,cap,h1,_⟩,hr⟩:=h
 rw[h1]
 cases a with
 |none=>rfl
 |some a=>
  rcases hr _ _ _ h1 with h|⟨r,_,_,_,h,_⟩
  ·cases h
  ·rw[h];rfl
theorem eN.form(h:eN R z H v l):∃ a c,v= .slice a l.length c:=let⟨⟨a,c,e,_⟩,_⟩:=h;⟨a,c,e⟩
theorem cY.g{cs:List Value}(hR:Cj R)(h:cY R z H cs l)(hs:gA H H'):cY R z H' cs l:=
 ⟨h.1,fun i x hi=>let⟨part,h1,h2⟩:=h.2 i x hi;⟨part,h1,hR _ _ _ _ hs h2⟩⟩
theorem b8.my{b n:Nat}{cs:List Value}{f:Option (Nat×Nat)}(h:b8 b z H v n cs f)(hl:l.length=n)(bj:n≤1000000000)(hR:cY R z H cs l):eN R z H v l:=by
 subst hl
 obtain⟨h0,h⟩:=h
 match f,h with
 |none,⟨h1,h2⟩=>
  cases l with
  |nil=>subst h1;exact⟨⟨none,0,rfl,⟨wy _,wJ _⟩,fun i x h=>by simp at h⟩,fun a m c e=>by simp only[waq]at e;exact .inl e.1.symm⟩
  |cons x l=>simp at h2
 |some (r,g),⟨h1,h2,h3,h4,h5,aT,h6,h7⟩=>
  subst h1
  refine⟨⟨_,_,rfl,⟨wy _,by omega⟩,fun i x hi=>?_⟩,fun a m c e=>?_⟩
  ·obtain⟨part,q1,q2⟩:=hR.2 i x hi
   exact⟨r,0,cs,_,_,part,rfl,h3,h6,by rw[wau];exact q1,q2⟩
  ·simp only[waq]at e
   obtain⟨rfl,_,_⟩:=e
   exact .inr ⟨r,cs,_,_,rfl,h3,h6⟩
theorem OS.my{b n:Nat}{cs:List Value}{go:Option Nat}(h:OS b z H v n cs go)(hl:l.length=n)(hR:cY R z H cs l):eN R z H v l:=by
 subst hl
 cases go with
 |none=>
  obtain⟨rfl,h2,h3⟩:=h
  cases l with
  |nil=>exact⟨⟨none,0,rfl,⟨wy _,wJ _⟩,fun i x h=>by simp at h⟩,fun a m c e=>by simp only[waq]at e;exact .inl e.1.symm⟩
  |cons x l=>simp at h2
 |some g=>
  obtain⟨r,cap,full,aT,rfl,h2,h3,h4,h5,h6,h7,h8,h9,aZ,aY,bH⟩:=h
  refine⟨⟨_,_,rfl,⟨h2.1,by omega⟩,fun i x hi=>?_⟩,fun a m c e=>?_⟩
  ·obtain⟨part,q1,q2⟩:=hR.2 i x hi
   have nJ:=(wD.1 hi).1
   have EL:=waQ z (show i+1≤l.length from nJ)
   rw[waW]at EL
   have zbN:=waQ z h2.1
   refine⟨r,0,full,_,_,part,rfl,h8,h5,?_,q2⟩
   rw[wau,←q1,←h4,HC (by omega) (by omega)]
  ·simp only[waq]at e
   obtain⟨rfl,_,_⟩:=e
   exact .inr ⟨r,full,_,_,rfl,h8,h5⟩
theorem OE.my{b n:Nat}{cs:List Value}(h:OE b z H v n cs)(hl:l.length=n)(hR:cY R z H cs l):eN R z H v l:=by
 rcases h with⟨go,h⟩|⟨rfl,rfl,q,rfl,h4,h5,h6⟩
 ·exact h.my hl hR
 ·have:l=[]:=wac hl
  subst this
  refine⟨⟨_,0,rfl,⟨wy _,wJ _⟩,fun i x h=>by simp at h⟩,fun a m c e=>?_⟩
  simp only[waq]at e
  obtain⟨rfl,_,_⟩:=e
  exact .inr ⟨q,[],_,_,rfl,h5,h6⟩
theorem b8.oy{b n p:Nat}{cs c c':List Value}{t:Bool}{f:Option (Nat×Nat)}(h:b8 b z H v n cs f)(hp:H.objs.get p=some (.row c none t)):b8 b z (H.setRow p c') v n cs f:=by
 refine h.cJ (wy _) fun r g e=>⟨?_,rfl⟩
 subst e
 have:r≠p:=fun e=>by
  obtain⟨_,h1,h2,h3,h4,h5,aT,h6,h7⟩:=h
  rw[e,hp]at h6;simp at h6
 rw[ay,au this];rfl
theorem b8.ko{b n:Nat}{cs:List Value}{f:Option (Nat×Nat)}(h:b8 b z H v n cs f)(k:Ko H H'):b8 b z H' v n cs f:=
 h.cJ k.ag fun r g e=>by subst e;exact⟨k.objs r h.below.1,k.grps g h.below.2⟩
theorem b8.cell{b n:Nat}{cs:List Value}{f:Option (Nat×Nat)}(h:b8 b z H v n cs f):isCell v=true:=by
 obtain⟨h0,h⟩:=h
 match f,h with
 |none,⟨h1,h2⟩=>rw[h1];rfl
 |some (r,g),⟨h1,h2⟩=>rw[h1];rfl
theorem pF.nil{f:Option (Nat×Nat)}:pF f none:=by
 unfold pF;split<;>first|trivial|(rename_i h;cases h)|(rename_i h h2;cases h2)
end
theorem Grown.ia{b:Nat}{H H':Heap}(h:Grown b H H'):gA H H':=h.ext.g
theorem Down.ko{b:Nat}{H H' X:Heap}(h:Down b H H')(k:Ko X H)(hb:X.next≤b):Ko X H':=
 ⟨wK k.ag h.ag,fun x hx=>(h.below x (by omega)).1.trans (k.objs x hx),fun x hx=>(h.below x (by omega)).2.trans (k.grps x hx)⟩
def iz:Heap→List Value→Gn→Prop:=fun H part n=>∃ f r,part=[.int .i64 n.kind,f,r]∧eN cQ 2 H f n.fields∧eN RW 1 H r n.bC
theorem cQ.qg:Cj cQ:=fun _ _ _ _ _ h=>h
theorem RW.qg:Cj RW:=fun _ _ _ _ _ h=>h
theorem iz.mono:Cj iz:=fun _ _ _ _ hs ⟨f,r,h1,h2,h3⟩=>⟨f,r,h1,h2.ext cQ.qg hs,h3.ext RW.qg hs⟩
theorem iz.nd{H:Heap}{part:List Value}{n:Gn}(h:iz H part n):xt H part n:=let⟨f,r,h1,h2,h3⟩:=h;⟨f,r,h1,h2.qX,h3.qX⟩
theorem Ko.add{H0 H:Heap}(h:Ko H0 H)(o:AObj):Ko H0 (H.add o):=h.call (AI H o)
theorem Ko.setObj{H0 H:Heap}(h:Ko H0 H){l:Nat}(hl:H0.next≤l)(o:AObj):Ko H0 (H.setObj l o):=
 ⟨by rw[px];exact h.ag,fun x hx=>by rw[iU,au (by omega)];exact h.objs x hx,fun x hx=>by rw[yn];exact h.grps x hx⟩
theorem jr{P:Prop}(h:P:=by with_reducible repeat' first|assumption|apply Ko.refl|apply Ko.newRow|apply Ko.bU|apply Ko.setRow|apply Ko.add|apply Ko.setObj|omega|(simp only[az,aF,aD,iR,px];omega)|(refine Ko.trans ?_ (by assumption))):P:=h
theorem zhx(a:Option Nat):cg (.map a)=[.map a]:=wE rfl rfl
theorem zhy(a:Option Nat):isCell (.map a)=true:=wE rfl rfl
set_option linter.defProp false
def sI:=And.intro (And.intro (And.intro zhx zhy) (And.intro pz @iR)) (And.intro (And.intro @vn @iU) (And.intro @px @yl))
theorem zhz{cells cs:List Value}{n k m:Nat}(h:cut cells 0 n=some cs)(hk:k+m≤n):cut cells k m=some ((cs.drop k).take m):=by
 rw[du]at h
 split at h
 ·rename_i hl
  simp only[waZ,wi]at h
  rw[du,wF (by omega),←h,wcO,wcN,waS (by omega)]
 ·cases h
theorem QV{H:Heap}{v:Value}{ws:List Nat}(hv:SLr RW 1 H v ws)(h0:ws≠[]):∃ r c cells g t,v= .slice (some ⟨r,0,none⟩) ws.length c∧r<H.next∧H.objs.get r=some (.row cells g t)∧cut cells 0 ws.length=some (ws.map wV):=by
 obtain⟨hs,hr⟩:=hv
 obtain⟨a,c,cs,rfl,eJ,om⟩:=hs.vJ hr
 have eD:=Ic om
 subst eD
 have aX:0<ws.length:=wcS.2 h0
 obtain⟨a',c',e,_,h⟩:=hs
 simp only[waq]at e
 obtain⟨rfl,_,rfl⟩:=e
 obtain⟨r,o,cells,g,t,_,rfl,cq,aC,_⟩:=h 0 ws[0] (wj aX)
 rcases hr _ _ _ rfl with q|⟨r',_,_,_,q,_⟩
 ·cases q
 ·cases q
  refine⟨r,_,cells,g,t,rfl,cq,aC,?_⟩
  rw[Bf,aC,wo,Bg,waY]at eJ
  exact eJ
section
variable{E:Env}{sz:Nat}{T:Tr Value}{H:Heap}{all:List Oper}
def Fc(u:Value):Option Value→Bool
 |some u'=>sameV u u'
 |none=>false
def JJ(E:Env)(H':Heap)(ty:TypeId):Option Value→Option Value→Bool
 |some a,some u=>Fc u (loadV E H' ty a)
 |_,_=>false
theorem zhA:keepOk E T H []=true:=wE rfl rfl
theorem zhB(ty:TypeId)(t d:Tmp)(l:List (TypeId×Tmp×Tmp)):keepOk E T H ((ty,t,d)::l)=(JJ E H ty (T.get t) (T.get d)&&keepOk E T H l):=by
 conv=>lhs;unfold keepOk
 congr 1
 unfold JJ
 cases T.get t with
 |none=>rfl
 |some a=>cases T.get d with
  |none=>rfl
  |some u=>unfold Fc;cases h:loadV E H ty a<;>simp[h]
theorem zhC(ty:TypeId)(a u:Value):JJ E H ty (some a) (some u)=Fc u (loadV E H ty a):=wE rfl rfl
theorem zhD(u u':Value):Fc u (some u')=sameV u u':=wE rfl rfl
end
theorem zhE(l c:Nat):sameV (.slice none l c) (.slice none l c)=true:=by
 show(Nat.beq l l&&Nat.beq c c)=true
 rw[wbc,wbc];rfl
theorem zhF(r o l c:Nat):sameV (.slice (some ⟨r,o,none⟩) l c) (.slice (some ⟨r,o,none⟩) l c)=true:=by
 show(Nat.beq r r&&Nat.beq o o&&Nat.beq l l&&Nat.beq c c)=true
 rw[wbc,wbc,wbc,wbc];rfl
theorem b8.sv{b z n:Nat}{H:Heap}{v:Value}{cs:List Value}{f:Option (Nat×Nat)}(h:b8 b z H v n cs f):sameV v v=true:=by
 obtain⟨h0,h⟩:=h
 match f,h with
 |none,⟨h1,h2⟩=>rw[h1];exact zhE _ _
 |some (r,g),⟨h1,h2⟩=>rw[h1];exact zhF _ _ _ _
def sK:=And.intro (And.intro @zhA @zhB) (And.intro @zhC @zhD)
theorem JK{n:Nat}(h:n≤1000000):eu 3 56 n=true:=by
 simp[eu,kV,cw];omega
theorem SLr.imp{α:Type}{R S:Heap→List Value→α→Prop}{z:Nat}{H:Heap}{v:Value}{l:List α}(h:SLr R z H v l)(hs:∀ part x,R H part x→S H part x):SLr S z H v l:=by
 obtain⟨⟨a,c,h1,h2,h3⟩,hr⟩:=h
 refine⟨⟨a,c,h1,h2,fun i x hi=>?_⟩,hr⟩
 obtain⟨r,o,cells,g,t,part,h4,h5,h6,h7,h8⟩:=h3 i x hi
 exact⟨r,o,cells,g,t,part,h4,h5,h6,h7,hs _ _ h8⟩
theorem QW{H:Heap}{v u w:Value}{l:List Int}{k:IntKind}{p:Nat}{c:List Value}{t:Bool}(h:SLr (RInt k) 1 H v l)(hp:H.objs.get p=some (.row [u,w] none t))(hu:∀ x,u≠ .int k x)(hw:∀ x,w≠ .int k x):SLr (RInt k) 1 (H.setRow p c) v l:=by
 obtain⟨⟨a,cap,h1,h2,h3⟩,hr⟩:=h
 refine⟨⟨a,cap,h1,h2,fun i x hi=>?_⟩,hr.g (ox hp)⟩
 obtain⟨r,o,cells,g,t,part,h4,h5,h6,h7,h8⟩:=h3 i x hi
 have aX:r≠p:=fun e=>by
  subst e
  rw[hp]at h6
  simp only[wi,AObj.row.injEq]at h6
  obtain⟨rfl,_,_⟩:=h6
  rw[h8,waY]at h7
  have h9:=Ez h7
  rcases hj:o+i with _|_|j<;>rw[hj]at h9<;>simp at h9
  ·exact hu _ h9
  ·exact hw _ h9
 exact⟨r,o,cells,g,t,part,h4,h5,by rw[ay,au aX];exact h6,h7,h8⟩
def Gz(z:Nat)(H:Heap)(v:Value):Prop:=∀ a n c,v= .slice (some a) n c→∀ cells g t,H.objs.get a.block=some (.row cells g t)→g=none∨∃ q,g=some (q,z)
theorem Gz.ko{z:Nat}{H H':Heap}{v:Value}(h:Gz z H v)(hr:oe H v)(k:Ko H H'):Gz z H' v:=fun a n c e cells g t ho=>by
 rcases hr _ _ _ e with q|⟨r,cells',g',t',q,h1,h2⟩
 ·cases q
 ·cases q
  have:=(k.objs r h1).symm.trans ho
  exact h _ n c e cells g t (by rw[←k.objs _ h1];exact ho)
theorem QX{cells:List Value}{wg:Option (Nat×Nat)}{t:Bool}{r l k c n:Nat}{ws:List Nat}(hg:wg=none∨∃ q,wg=some (q,1))(hc:cut cells 0 n=some (ws.map wV))(hk:l+k≤n)(CL:n≤c):∃ off,rJ 1 (some (.row cells wg t)) r 0 (l,l+k,c) false=some (.slice (some ⟨r,off,none⟩) k (c-l))∧cut cells off k=some (((ws.drop l).take k).map wV):=by
 have h1:=zhz hc hk
 rw[←List.map_drop,←List.map_take]at h1
 rcases hg with rfl|⟨q,rfl⟩
 ·by_cases e:c=l
  ·have jY:k=0:=by omega
   subst jY
   refine⟨0,by rw[CX,wF e,waX,wbS],by rw[du,wF (by omega)];simp⟩
  ·refine⟨l,by rw[CX,wI e,waY,wau,Nat.add_sub_cancel_left],?_⟩
   exact h1
 ·refine⟨l,by rw[FQ,waY,wau,Nat.add_sub_cancel_left],?_⟩
  exact h1
theorem JL{cells:List Value}{off k j:Nat}{l:List Nat}(h:cut cells off k=some (l.map wV))(hj:j<l.length):cells[off+j]? =some (wV l[j]):=by
 obtain⟨h1,h2,h3⟩:=yF h
 rw[wO]at h1
 have e:=congrArg (fun t:List Value=>t[j]?) h3
 simp only[war,wab,wae,wF (show j<k by omega),wj hj,waE]at e
 exact e.symm
theorem zhG(H:Heap)(an:H.lo≤H.next){r o c:Nat}{cells:List Value}{g:Option (Nat×Nat)}{t:Bool}(hr:r<H.next)(aC:H.objs.get r=some (.row cells g t))(ws:List Nat)(hc:cut cells o ws.length=some (ws.map wV))(hl:ws.length≤100000):af E (aK 64) [.slice (some ⟨r,o,none⟩) ws.length c] H fun r H'=>OE H.next 1 H' r ws.length (ws.map wV)∧aq H H':=by
 have sN:aq H (H.newRow []):=eO _
 have eJ:cellsOf (H.newRow []) ws.length (.slice (some ⟨r,o,none⟩) ws.length c)=some (ws.map wV):=by
  rw[Bf,sN.keeps hr aC,wo,Bg];exact hc
 have lU:(H.newRow []).objs.get H.next=some (.row [] none true):=by simp(disch:=omega)only[ay,aN,az,aF,aE,aB,aM,aO,aQ,aP,aL,aD,aH,au,sl]
 refine aV Tryz.f64 ?_
 simp only[Tryz.f64]
 by_cases aX:ws.length=0
 ·have e0:ws=[]:=wac aX
  subst e0
  simp only[waA]at eJ
  have cK:=BC (z:=1) (b:=8) (H:=H.newRow []) ⟨H.next,0,none⟩ 0 rfl (([]:List Nat).map wV)
  clear aC hc
  simp(disch:=omega)only[↓aa,ab,simprocAttr,sa,Er,cw,dW,waA, *]
  exact .inr ⟨rfl,rfl,H.next,rfl,wy _,by simp(disch:=omega)only[ay,aN,az,aF,aE,aB,aM,aO,aQ,aP,aL,aD,aH,au,sl];omega,lU⟩
 ·have cK:=vR (z:=1) (b:=8) (k:=ws.length) (new:=ws.map wV) lU aX (by simp[eu,kV,cw];omega)
  clear aC hc
  simp(disch:=omega)only[↓aa,ab,simprocAttr,sa,Er,cw,dW, *]
  have g:=uk (b:=H.next) (H:=H.newRow []) (by simp(disch:=omega)only[ay,aN,az,aF,aE,aB,aM,aO,aQ,aP,aL,aD,aH,au,sl];omega) 1 (ws.map wV)
  have hO:=OS.dd (b:=H.next) (z:=1) (n:=ws.length) (H:=H.newRow []) (cs:=ws.map wV) (by simp(disch:=omega)only[ay,aN,az,aF,aE,aB,aM,aO,aQ,aP,aL,aD,aH,au,sl];omega) (by omega) (by rw[wO,waY])
  simp(disch:=omega)only[sm,sl,sI]at hO
  exact⟨.inl ⟨_,hO⟩,g.same sN (wy _)⟩
structure dc where
 z:Nat
 v:Value
 n:Nat
 cs:List Value
 go:Option Nat
def dc.ae(b:Nat)(X:Heap)(d:dc):Prop:=OS b d.z X d.v d.n d.cs d.go∨(d.go=none∧d.n=0∧d.cs=[]∧∃ q,d.v= .slice (some ⟨q,0,none⟩) 0 0∧b≤q∧q<X.next∧X.objs.get q=some (.row [] none true))
def dc.mE(d e:dc):Prop:=d.go=none∨d.go≠e.go
abbrev Ky:=Nat×Nat
structure di(b:Nat)(X:Heap)(I:Ky→Prop)(D:Ky→dc):Prop where
 ae:∀ i,I i→(D i).ae b X
 mE:∀ i j,I i→I j→i≠j→(D i).mE (D j)
def ti(D:Ky→dc)(i:Ky)(d:dc):Ky→dc:=fun j=>if j=i then d else D j
theorem iM(D:Ky→dc)(i:Ky)(d:dc):ti D i d i=d:=wF rfl
theorem fi(D:Ky→dc){i j:Ky}(d:dc)(h:j≠i):ti D i d j=D j:=wI h
section
variable{b:Nat}{X X':Heap}{I:Ky→Prop}{D:Ky→dc}
theorem dc.ae.ko{d:dc}(h:d.ae b X)(k:Ko X X'):d.ae b X':=by
 rcases h with h|⟨h1,h2,h3,q,h4,h5,h6,h7⟩
 ·exact .inl (h.ko k)
 ·exact .inr ⟨h1,h2,h3,q,h4,h5,wq h6 k.ag,(k.objs q h6).trans h7⟩
theorem dc.ae.lt{d:dc}(h:d.ae b X){g:Nat}(hg:d.go=some g):b≤g∧g<X.next:=by
 rcases h with h|⟨h1,_⟩
 ·exact h.lt g hg
 ·rw[h1]at hg;cases hg
theorem dc.ae.fR{d:dc}{g:Nat}(h:d.ae b X)(e:im b g X X')(hg:d.go≠some g):d.ae b X':=by
 rcases h with h|⟨h1,h2,h3,q,h4,h5,h6,h7⟩
 ·exact .inl (h.fR e hg)
 ·exact .inr ⟨h1,h2,h3,q,h4,h5,wq h6 e.ag,e.objs q _ h6 h7 fun c z t q=>by simp at q⟩
theorem dc.ae.box{d:dc}(h:d.ae b X){p:Nat}{c c':List Value}{t:Bool}(hp:X.objs.get p=some (.row c none t))(hc:c≠[]):d.ae b (X.setRow p c'):=by
 rcases h with h|⟨h1,h2,h3,q,h4,h5,h6,h7⟩
 ·exact .inl (h.setRow hp)
 ·have:q≠p:=fun e=>by
   rw[e,hp]at h7
   simp only[wi,AObj.row.injEq]at h7
   exact hc h7.1
  exact .inr ⟨h1,h2,h3,q,h4,h5,h6,by rw[ay,au this];exact h7⟩
theorem di.nil(b:Nat)(X:Heap)(D:Ky→dc):di b X (fun _=>False) D:=⟨fun _ h=>h.elim,fun _ _ h=>h.elim⟩
theorem di.ko(h:di b X I D)(k:Ko X X'):di b X' I D:=⟨fun i hi=>(h.ae i hi).ko k,h.mE⟩
theorem di.box(h:di b X I D){p:Nat}{c c':List Value}{t:Bool}(hp:X.objs.get p=some (.row c none t))(hc:c≠[]):di b (X.setRow p c') I D:=⟨fun i hi=>(h.ae i hi).box hp hc,h.mE⟩
theorem dc.mE.symm{d e:dc}(h:d.mE e):e.mE d:=by
 rcases h with h|h
 ·by_cases he:e.go=none
  ·exact .inl he
  ·exact .inr fun q=>he (q.trans h)
 ·exact .inr (wbl h)
theorem di.more(h:di b X I D)(k:Ko X X')(hb:b≤X.next){z n:Nat}{v:Value}{cs:List Value}(hn:OE X.next z X' v n cs){i:Ky}(hi:¬ I i):
  ∃go,di b X' (fun j=>I j∨j=i) (ti D i ⟨z,v,n,cs,go⟩):=by
 have key:∃ go,(⟨z,v,n,cs,go⟩:dc).ae X.next X':=by
  rcases hn with⟨go,hn⟩|⟨h1,h2,q,h3⟩
  ·exact⟨go,.inl hn⟩
  ·exact⟨none,.inr ⟨rfl,h1,h2,q,h3⟩⟩
 obtain⟨go,lR⟩:=key
 have zh5:(⟨z,v,n,cs,go⟩:dc).ae b X':=by
  rcases lR with hq|⟨h1,h2,h3,q,h4,h5,h6⟩
  ·refine .inl ?_
   cases go with
   |none=>exact hq
   |some g=>
    obtain⟨r,cap,full,aT,q1,q2,q3,q4,q5,q6,q7,q8,q9,q10,Rh,q12⟩:=hq
    exact⟨r,cap,full,aT,q1,q2,q3,q4,q5,q6,wK hb q7,q8,wK hb q9,q10,fun x hx=>⟨wK hb (Rh x hx).1,(Rh x hx).2⟩,q12⟩
  ·exact .inr ⟨h1,h2,h3,q,h4,wK hb h5,h6⟩
 have hd:∀ j,I j→(D j).mE ⟨z,v,n,cs,go⟩:=fun j hj=>by
  by_cases hg:(D j).go=none
  ·exact .inl hg
  ·obtain⟨g,hg⟩:=Option.ne_none_iff_exists'.1 hg
   refine .inr fun e=>?_
   have h1:=((h.ae j hj).lt hg).2
   have h2:=(lR.lt (g:=g) (e▸hg)).1
   omega
 refine⟨go,⟨fun j hj=>?_,fun j j' hj pA aX=>?_⟩⟩
 ·by_cases e:j=i
  ·rw[e,iM];exact zh5
  ·rw[fi D _ e];exact(h.ae j (hj.resolve_right e)).ko k
 ·by_cases e:j=i
  ·have e':j'≠i:=fun q=>aX (e.trans q.symm)
   rw[e,iM,fi D _ e']
   exact(hd j' (pA.resolve_right e')).symm
  ·rw[fi D _ e]
   by_cases e':j'=i
   ·rw[e',iM];exact hd j (hj.resolve_right e)
   ·rw[fi D _ e'];exact h.mE j j' (hj.resolve_right e) (pA.resolve_right e') aX
theorem zh6{d e:dc}{g':Nat}(hd:d.mE e)(he:e.ae b X)(hg:d.go=some g'∨d.go=none∧g'=X.next):e.go≠some g':=fun q=>by
 rcases hg with hg|⟨hg,rfl⟩
 ·rcases hd with h|h
  ·rw[h]at hg;cases hg
  ·exact h (hg.trans q.symm)
 ·have:=(he.lt q).2;omega
theorem di.put(h:di b X I D){g':Nat}(e:im b g' X X'){i:Ky}(hi:I i)(hg:(D i).go=some g'∨(D i).go=none∧g'=X.next){d:dc}(hd:d.ae b X')(Ri:d.go=some g'):di b X' I (ti D i d):=by
 have aX:∀ j,I j→j≠i→(D j).go≠some g':=fun j hj jG=>zh6 (h.mE i j hi hj (wbl jG)) (h.ae j hj) hg
 refine⟨fun j hj=>?_,fun j j' hj pA Rj=>?_⟩
 ·by_cases q:j=i
  ·rw[q,iM];exact hd
  ·rw[fi D _ q];exact(h.ae j hj).fR e (aX j hj q)
 ·by_cases q:j=i
  ·have q':j'≠i:=fun r=>Rj (q.trans r.symm)
   rw[q,iM,fi D _ q']
   exact .inr fun r=>aX j' pA q' (by rw[←r];exact Ri)
  ·rw[fi D _ q]
   by_cases q':j'=i
   ·rw[q',iM]
    exact .inr fun r=>aX j hj q (by rw[r];exact Ri)
   ·rw[fi D _ q'];exact h.mE j j' hj pA Rj
theorem di.app(h:di b X I D){i:Ky}(hi:I i){bytes:Nat}{part:List Value}(hb:b≤X.next)(an:X.lo≤b)(hp:part.length=(D i).z)(hc:part.all isCell=true)(hs:eu (D i).z bytes ((D i).n+1)=true):
  ∃r c X' g',appendT (D i).z bytes X (D i).v 1 part=some (.slice (some ⟨r,0,none⟩) ((D i).n+1) c,X')∧im b g' X X'∧di b X' I (ti D i ⟨(D i).z,.slice (some ⟨r,0,none⟩) ((D i).n+1) c,(D i).n+1,(D i).cs++part,some g'⟩):=by
 rcases h.ae i hi with hq|⟨h1,h2,h3,q,h4,h5,h6,h7⟩
 ·obtain⟨v',X',g',e1,e2,e3,e4⟩:=hq.app (bytes:=bytes) (part:=part) hb an hp hc hs
  obtain⟨r,c,_,_,e5,_⟩:=id e2
  subst e5
  exact⟨r,c,X',g',e1,e3,h.put e3 hi e4 (.inl e2) rfl⟩
 ·have e1:=vR (z:=(D i).z) (b:=bytes) (k:=1) (new:=part) h7 (by decide) (by rw[h2]at hs;exact hs)
  have e2:=OS.dd (b:=b) (z:=(D i).z) (n:=1) (H:=X) (cs:=part) hb (by decide) (by omega)
  rw[h2,h3,h4,wau,wL]
  exact⟨X.next,1,_,X.next,e1,E2 hb part,h.put (E2 hb part) hi (.inr ⟨h1,rfl⟩) (.inl e2) rfl⟩
theorem di.write(h:di b X I D){i:Ky}(hi:I i){new:List Value}{o:Nat}(an:X.lo≤b)(hc:new.all isCell=true)(hn:new≠[])(hf:o+new.length≤(D i).cs.length):
  ∃r c full aT g X',(D i).go=some g∧(D i).v= .slice (some ⟨r,0,none⟩) (D i).n c∧X.objs.get r=some (.row full (some (g,(D i).z)) true)∧X.grps.get g=some aT∧X.write r o new=some X'∧im b g X X'∧di b X' I (ti D i ⟨(D i).z,(D i).v,(D i).n,over new o (D i).cs,some g⟩):=by
 rcases h.ae i hi with hq|⟨h1,h2,h3,_⟩
 ·cases xr:(D i).go with
  |none=>rw[xr]at hq;rw[hq.2.2]at hf;cases new with
   |nil=>exact absurd rfl hn
   |cons a l=>simp at hf
  |some g=>
   rw[xr]at hq
   obtain⟨r,c,X',e1,e2,e3,e4⟩:=hq.write (o:=o) an hc hf
   obtain⟨r',c',full,aT,f1,f2,f3,f4,f5,f6,_⟩:=id hq
   rw[e1]at f1
   simp only[waq,wi,wcE,wcl,wbT]at f1
   obtain⟨rfl,rfl⟩:=f1
   exact⟨r,c,full,aT,g,X',rfl,e1,f5,f6,e2,e4,h.put e4 hi (.inl xr) (.inl e3) rfl⟩
 ·rw[h3]at hf
  cases new with
  |nil=>exact absurd rfl hn
  |cons a l=>simp at hf
theorem dc.ae.reads{α:Type}{R:Heap→List Value→α→Prop}{d:dc}{l:List α}(h:d.ae b X)(hl:l.length=d.n)(hR:cY R d.z X d.cs l):eN R d.z X d.v l:=by
 rcases h with h|⟨h1,h2,h3,q,h4,h5,h6,h7⟩
 ·exact h.my hl hR
 ·have:l=[]:=wac (by omega)
  subst this
  rw[h4]
  refine⟨⟨_,0,rfl,⟨wy _,wJ _⟩,fun i x h=>by simp at h⟩,fun a m c e=>?_⟩
  simp only[waq]at e
  obtain⟨rfl,_,_⟩:=e
  exact .inr ⟨q,[],_,_,rfl,h6,h7⟩
theorem dc.ae.form{d:dc}(h:d.ae b X):∃ a c,d.v= .slice a d.n c:=by
 rcases h with h|⟨_,h2,_,q,h4,_⟩
 ·cases hg:d.go with
  |none=>rw[hg]at h;exact⟨none,0,by rw[h.1,h.2.1]⟩
  |some g=>rw[hg]at h;obtain⟨r,c,_,_,q,_⟩:=h;exact⟨_,c,q⟩
 ·exact⟨_,0,by rw[h4,h2]⟩
end
def qe(gn gr:Value)(nM ax:Int)(met small fp JG:Value)(top:Int)(next:Value)(first:Int)(JH:Value):List Value:=[gn,gr,.int .i64 nM,.int .i64 ax,met,small,fp,JG,.int .i64 top,.slice none 0 0,next,.int .i64 first,JH]
theorem zhv(H:Heap)(an:H.lo≤H.next){p:Nat}{gn gr met small fp JG next JH:Value}{nM ax top first:Int}(hp:p<H.next)(aC:H.objs.get p=some (.row (qe gn gr nM ax met small fp JG top next first JH) none true)):
  af E (aK 292) [ptr p 0] H fun r H'=>r= .tuple #[.int .i64 0,.bool false]∧aq H H':=by
 unfold qe at aC
 refine aV Tryz.f292 ?_
 simp only[Tryz.f292]
 simp(disch:=omega)only[↓aa,ab,simprocAttr,sa, *]
 all_goals exact bq
structure PB(H0 H:Heap)(p mt mp:Nat)(c m:List Value)(es:List (Value×Value))(sv bv lv:Value)(ns nb nl:Nat)(sc bc lc:List Value)(gs gb gl:Option Nat):Prop where
 ko:Ko H0 H
 lo:H.lo=H0.lo
 pb:H0.next≤p∧p<H.next
 mb:H0.next≤mt∧mt<H.next
 ob:H0.next≤mp∧mp<H.next
 ne:p≠mt
 row:H.objs.get p=some (.row c none true)
 met:H.objs.get mt=some (.row m none true)
 nE:H.objs.get mp=some (.map es)
 sm:OS H0.next 1 H sv ns sc gs
 bg:OS H0.next 1 H bv nb bc gb
 lk:OS H0.next 1 H lv nl lc gl
 d1:gs=none∨gs≠gb
 d2:gs=none∨gs≠gl
 d3:gb=none∨gb≠gl
section
variable{H0 H H':Heap}{p mt mp:Nat}{c m:List Value}{es:List (Value×Value)}{sv bv lv:Value}{ns nb nl:Nat}{sc bc lc:List Value}{gs gb gl:Option Nat}
theorem OS.setObj{b z n:Nat}{v:Value}{cs:List Value}{go:Option Nat}(h:OS b z H v n cs go){q:Nat}{es:List (Value×Value)}(hq:H.objs.get q=some (.map es))(ob:AObj):OS b z (H.setObj q ob) v n cs go:=
 h.cJ (by rw[px];exact wy _) (fun x c z t' g _ _ hx ho=>by
  have:x≠q:=fun e=>by rw[e,hq]at ho;simp at ho
  rw[iU,au this];exact ho) fun g e=>by rw[yn]
theorem PB.np(h:PB H0 H p mt mp c m es sv bv lv ns nb nl sc bc lc gs gb gl):p≠mp∧mt≠mp:=by
 refine⟨fun e=>?_,fun e=>?_⟩
 ·have:=h.row;rw[e,h.nE]at this;simp at this
 ·have:=h.met;rw[e,h.nE]at this;simp at this
theorem PB.go(h:PB H0 H p mt mp c m es sv bv lv ns nb nl sc bc lc gs gb gl)(k:Ko H H')(l:H'.lo=H.lo):PB H0 H' p mt mp c m es sv bv lv ns nb nl sc bc lc gs gb gl:=
 ⟨h.ko.trans k,l.trans h.lo,⟨h.pb.1,wq h.pb.2 k.ag⟩,⟨h.mb.1,wq h.mb.2 k.ag⟩,⟨h.ob.1,wq h.ob.2 k.ag⟩,h.ne,
  (k.objs _ h.pb.2).trans h.row,(k.objs _ h.mb.2).trans h.met,(k.objs _ h.ob.2).trans h.nE,h.sm.ko k,h.bg.ko k,h.lk.ko k,h.d1,h.d2,h.d3⟩
theorem PB.CE(h:PB H0 H p mt mp c m es sv bv lv ns nb nl sc bc lc gs gb gl)(c':List Value):PB H0 (H.setRow p c') p mt mp c' m es sv bv lv ns nb nl sc bc lc gs gb gl:=
 ⟨h.ko.setRow h.pb.1 _,h.lo,h.pb,h.mb,h.ob,h.ne,by rw[ay,cr rfl];rfl,by rw[ay,au (wbl h.ne)];exact h.met,by rw[ay,au (wbl h.np.1)];exact h.nE,
  h.sm.setRow h.row,h.bg.setRow h.row,h.lk.setRow h.row,h.d1,h.d2,h.d3⟩
theorem PB.zhL(h:PB H0 H p mt mp c m es sv bv lv ns nb nl sc bc lc gs gb gl)(m':List Value):PB H0 (H.setRow mt m') p mt mp c m' es sv bv lv ns nb nl sc bc lc gs gb gl:=
 ⟨h.ko.setRow h.mb.1 _,h.lo,h.pb,h.mb,h.ob,h.ne,by rw[ay,au h.ne];exact h.row,by rw[ay,cr rfl];rfl,by rw[ay,au (wbl h.np.2)];exact h.nE,
  h.sm.setRow h.met,h.bg.setRow h.met,h.lk.setRow h.met,h.d1,h.d2,h.d3⟩
theorem PB.lu(h:PB H0 H p mt mp c m es sv bv lv ns nb nl sc bc lc gs gb gl)(bb:List (Value×Value)):PB H0 (H.setObj mp (.map bb)) p mt mp c m bb sv bv lv ns nb nl sc bc lc gs gb gl:=
 ⟨h.ko.setObj h.ob.1 _,by rw[yl];exact h.lo,by rw[px];exact h.pb,by rw[px];exact h.mb,by rw[px];exact h.ob,h.ne,by rw[iU,au h.np.1];exact h.row,by rw[iU,au h.np.2];exact h.met,by rw[iU,cr rfl];rfl,
  h.sm.setObj h.nE _,h.bg.setObj h.nE _,h.lk.setObj h.nE _,h.d1,h.d2,h.d3⟩
theorem PB.dd(h:PB H0 H p mt mp c m es sv bv lv ns nb nl sc bc lc gs gb gl)(z:Nat)(part:List Value):PB H0 (H.dd z part) p mt mp c m es sv bv lv ns nb nl sc bc lc gs gb gl:=
 h.go ⟨by rw[gH];omega,fun x hx=>by rw[jj,au (by omega)];rfl,fun x hx=>by rw[lz,au (by omega)];rfl⟩ (Bs _ _)
theorem zP{b z n:Nat}{v:Value}{cs:List Value}{go xM:Option Nat}{g':Nat}(h:OS b z H v n cs xM)(hd:go=none∨go≠xM)(hg:go=some g'∨go=none∧g'=H.next):xM≠some g':=fun e=>by
 rcases hg with rfl|⟨rfl,rfl⟩
 ·rcases hd with q|q
  ·cases q
  ·exact q e.symm
 ·have:=(h.lt _ e).2;omega
theorem im.iI{b g':Nat}(e:im b g' H H'){X:Heap}(k:Ko X H)(hb:X.next≤b):Ko X H':=
 ⟨wK k.ag e.ag,fun x hx=>(e.below x (by omega)).1.trans (k.objs x hx),fun x hx=>(e.below x (by omega)).2.trans (k.grps x hx)⟩
theorem im.obj{b g':Nat}(e:im b g' H H'){q:Nat}{ob:AObj}(hq:q<H.next)(h:H.objs.get q=some ob)(hn:∀ c z t,ob≠ .row c (some (g',z)) t):H'.objs.get q=some ob:=e.objs q ob hq h hn
section
variable{bytes:Nat}{x:Value}
theorem CF{b z n:Nat}{v:Value}{cs:List Value}{g:Nat}(h:OS b z H v n cs (some g)):∃ r k,v= .slice (some ⟨r,0,none⟩) n k:=let⟨r,k,_,_,q,_⟩:=h;⟨r,k,q⟩
theorem PB.zhM(h:PB H0 H p mt mp c m es sv bv lv ns nb nl sc bc lc gs gb gl)(an:H0.lo≤H0.next)(hc:isCell x=true)(hs:eu 1 bytes (ns+1)=true):
  ∃r k H' g',appendT 1 bytes H sv 1 [x]=some (.slice (some ⟨r,0,none⟩) (ns+1) k,H')∧H.next≤H'.next∧PB H0 H' p mt mp c m es (.slice (some ⟨r,0,none⟩) (ns+1) k) bv lv (ns+1) nb nl (sc++[x]) bc lc (some g') gb gl:=by
 obtain⟨v',H',g',h1,h2,h3,h4⟩:=h.sm.app (bytes:=bytes) (part:=[x]) h.ko.ag (by rw[h.lo];exact an) rfl (by simp[hc]) hs
 have e1:=zP h.bg h.d1 h4
 have e2:=zP h.lk h.d2 h4
 obtain⟨r,k,rfl⟩:=CF h2
 exact⟨r,k,H',g',h1,h3.ag,h3.iI h.ko (wy _),h3.lo.trans h.lo,⟨h.pb.1,wq h.pb.2 h3.ag⟩,⟨h.mb.1,wq h.mb.2 h3.ag⟩,⟨h.ob.1,wq h.ob.2 h3.ag⟩,h.ne,h3.obj h.pb.2 h.row (by simp),h3.obj h.mb.2 h.met (by simp),h3.obj h.ob.2 h.nE (by simp),h2,h.bg.fR h3 e1,h.lk.fR h3 e2,.inr (wbl e1),.inr (wbl e2),h.d3⟩
theorem PB.zhN(h:PB H0 H p mt mp c m es sv bv lv ns nb nl sc bc lc gs gb gl)(an:H0.lo≤H0.next)(hc:isCell x=true)(hs:eu 1 bytes (nb+1)=true):
  ∃r k H' g',appendT 1 bytes H bv 1 [x]=some (.slice (some ⟨r,0,none⟩) (nb+1) k,H')∧H.next≤H'.next∧PB H0 H' p mt mp c m es sv (.slice (some ⟨r,0,none⟩) (nb+1) k) lv ns (nb+1) nl sc (bc++[x]) lc gs (some g') gl:=by
 obtain⟨v',H',g',h1,h2,h3,h4⟩:=h.bg.app (bytes:=bytes) (part:=[x]) h.ko.ag (by rw[h.lo];exact an) rfl (by simp[hc]) hs
 have e1:=zP h.sm (h.d1.elim (fun q=>by cases gb<;>simp[q]) fun q=> .inr (wbl q)) h4
 have e2:=zP h.lk h.d3 h4
 obtain⟨r,k,rfl⟩:=CF h2
 exact⟨r,k,H',g',h1,h3.ag,h3.iI h.ko (wy _),h3.lo.trans h.lo,⟨h.pb.1,wq h.pb.2 h3.ag⟩,⟨h.mb.1,wq h.mb.2 h3.ag⟩,⟨h.ob.1,wq h.ob.2 h3.ag⟩,h.ne,h3.obj h.pb.2 h.row (by simp),h3.obj h.mb.2 h.met (by simp),h3.obj h.ob.2 h.nE (by simp),h.sm.fR h3 e1,h2,h.lk.fR h3 e2,.inr e1,h.d2,.inr (wbl e2)⟩
theorem PB.zhO(h:PB H0 H p mt mp c m es sv bv lv ns nb nl sc bc lc gs gb gl)(an:H0.lo≤H0.next)(hc:isCell x=true)(hs:eu 1 bytes (nl+1)=true):
  ∃r k H' g',appendT 1 bytes H lv 1 [x]=some (.slice (some ⟨r,0,none⟩) (nl+1) k,H')∧H.next≤H'.next∧PB H0 H' p mt mp c m es sv bv (.slice (some ⟨r,0,none⟩) (nl+1) k) ns nb (nl+1) sc bc (lc++[x]) gs gb (some g'):=by
 obtain⟨v',H',g',h1,h2,h3,h4⟩:=h.lk.app (bytes:=bytes) (part:=[x]) h.ko.ag (by rw[h.lo];exact an) rfl (by simp[hc]) hs
 have e1:=zP h.sm (h.d2.elim (fun q=>by cases gl<;>simp[q]) fun q=> .inr (wbl q)) h4
 have e2:=zP h.bg (h.d3.elim (fun q=>by cases gl<;>simp[q]) fun q=> .inr (wbl q)) h4
 obtain⟨r,k,rfl⟩:=CF h2
 exact⟨r,k,H',g',h1,h3.ag,h3.iI h.ko (wy _),h3.lo.trans h.lo,⟨h.pb.1,wq h.pb.2 h3.ag⟩,⟨h.mb.1,wq h.mb.2 h3.ag⟩,⟨h.ob.1,wq h.ob.2 h3.ag⟩,h.ne,h3.obj h.pb.2 h.row (by simp),h3.obj h.mb.2 h.met (by simp),h3.obj h.ob.2 h.nE (by simp),h.sm.fR h3 e1,h.bg.fR h3 e2,h2,h.d1,.inr e1,.inr e2⟩
theorem PB.look(h:PB H0 H p mt mp c m es sv bv lv ns nb nl sc bc lc gs gb gl)(an:H0.lo≤H0.next)(hc:isCell x=true){o:Nat}(ho:o+1≤lc.length):
  ∃r k H',lv= .slice (some ⟨r,0,none⟩) nl k∧H.write r o [x]=some H'∧H.next≤H'.next∧PB H0 H' p mt mp c m es sv bv lv ns nb nl sc bc (over [x] o lc) gs gb gl:=by
 cases gl with
 |none=>have:=h.lk.2.2;rw[this]at ho;simp at ho
 |some g=>
  obtain⟨r,k,H',h1,h2,h3,h4⟩:=h.lk.write (new:=[x]) (o:=o) (by rw[h.lo];exact an) (by simp[hc]) ho
  have e1:gs≠some g:=h.d2.elim (fun q=>by simp[q]) id
  have e2:gb≠some g:=h.d3.elim (fun q=>by simp[q]) id
  exact⟨r,k,H',h1,h2,h4.ag,h4.iI h.ko (wy _),h4.lo.trans h.lo,⟨h.pb.1,wq h.pb.2 h4.ag⟩,⟨h.mb.1,wq h.mb.2 h4.ag⟩,⟨h.ob.1,wq h.ob.2 h4.ag⟩,h.ne,h4.obj h.pb.2 h.row (by simp),h4.obj h.mb.2 h.met (by simp),h4.obj h.ob.2 h.nE (by simp),h.sm.fR h4 e1,h.bg.fR h4 e2,h3,h.d1,h.d2,h.d3⟩
end
end
def xN(es:List (Value×Value))(top:Int):Prop:=∀ e∈es,∃j:Int,e.1= .int .i64 j∧j<top
theorem JZ{k:Int}:∀ {es:List (Value×Value)} (i:Nat),xN es k→findV (.int .i64 k) es i=some none
 |[],_,_=>rfl
 |(a,b)::es,i,h=>by
  obtain⟨j,rfl,hj⟩:=h (a,b) (wW ..)
  have:keyEq (.int .i64 k) (.int .i64 j)=some false:=by simp[keyEq,sameKind,gF];omega
  simp only[findV,this,wo]
  exact JZ (i+1) fun e he=>h e (wM _ he)
theorem zhP(H:Heap)(r:Nat)(k:Int)(v:Value):mapUpdateV E H 290 (.map (some r)) (.int .i64 k) v=sy H (H.objs.get r) r (.int .i64 k) v:=kq
theorem zhQ(H:Heap)(r:Nat)(k:Int):lookupV E H 290 (.map (some r)) (.int .i64 k) false=sC (H.objs.get r) (.int .i64 k) (.slice none 0 0):=kq
theorem zhR{es:List (Value×Value)}{k:Int}{z:Value}(h:xN es k):sC (some (.map es)) (.int .i64 k) z=some z:=by
 rw[sC]
 simp only[wo,JZ 0 h]
theorem zhS{H:Heap}{r:Nat}{es:List (Value×Value)}(hl:H.lo≤r){k:Int}{v:Value}(h:xN es k):sy H (some (.map es)) r (.int .i64 k) v=some (H.setObj r (.map (es++[(.int .i64 k,v)]))):=by
 rw[sy]
 have hb:(!Nat.ble H.lo r)=false:=by simpa using hl
 simp only[wo,JZ 0 h,Heap.pv,hb,wS,Tr.force_eq,Heap.setObj]
theorem xN.more{es:List (Value×Value)}{k k':Int}{v:Value}(h:xN es k)(hk:k<k'):xN (es++[(.int .i64 k,v)]) k':=fun e he=>by
 rcases waI.1 he with he|he
 ·obtain⟨j,h1,h2⟩:=h e he
  exact⟨j,h1,by omega⟩
 ·rw[waG]at he
  subst he
  exact⟨k,rfl,hk⟩
def qk(n:Nat)(l:List Nat):List Value:=(List.range n).map fun i=> .bool (decide (i∈l))
def rC(k n:Nat):List Value:=(List.range n).map fun i=> .bool (decide (i<k))
def xO(i:Nat):Value:= .int .i64 (i:Nat)
def PF(H0 H:Heap)(p mt mp:Nat)(x y:Value)(g:Gr)(l:List Nat)(k:Nat)(first:Int):Prop:=
 ∃sv bv lv top gs gb gl bc es,PB H0 H p mt mp (qe x y 1048576 1 (.slice (some ⟨mt,0,none⟩) g.nodes.length g.nodes.length) sv (.slice none 0 0) bv top (.map (some mp)) first lv) (qk g.nodes.length l) es sv bv lv l.length l.length l.length (l.map xO) bc (rC k l.length) gs gb gl∧
  0≤top∧top≤l.length*8193∧xN es top
def PM(H0 H:Heap)(p mt mp:Nat)(x y:Value)(g:Gr)(l:List Nat)(k:Nat):Prop:=∃ first:Int,0≤first∧first≤k∧PF H0 H p mt mp x y g l k first
theorem Fm(n:Nat)(l:List Nat):(qk n l).length=n:=by unfold qk;rw[wO,wb9]
theorem Fo(k n:Nat):(rC k n).length=n:=by unfold rC;rw[wO,wb9]
theorem J0{n i:Nat}{l:List Nat}(h:i<n):(qk n l)[i]? =some (.bool (decide (i∈l))):=by
 unfold qk
 rw[war,wbC h];rfl
theorem J1{n i k:Nat}(h:i<n):(rC k n)[i]? =some (.bool (decide (i<k))):=by
 unfold rC
 rw[war,wbC h];rfl
theorem J2(x:Value)(o:Nat)(cs:List Value)(h:o<cs.length)(j:Nat):(over [x] o cs)[j]? =if j=o then some x else cs[j]? :=by
 rw[tA _ _ _ (by simp only[wY,waA];omega)]
 simp only[wY,waA,wau]
 by_cases h1:j<o
 ·rw[wI (by omega),waP,waf (by rw[wU];omega),wab,wF h1]
 ·by_cases h2:j=o
  ·subst h2
   rw[wF rfl,waf (by rw[wN,wU];simp;omega),waB (by rw[wU];omega),wU,waS (by omega),wbS];rfl
  ·rw[wI h2,waB (by rw[wN,wU];simp;omega),wae]
   congr 1
   rw[wN,wU]
   simp
   omega
theorem zhT{n i:Nat}{l:List Nat}(h:i<n):over [.bool true] i (qk n l)=qk n (l++[i]):=by
 refine waR fun j=>?_
 rw[J2 _ _ _ (by rw[Fm];exact h)]
 by_cases hj:j<n
 ·rw[J0 hj,J0 hj]
  by_cases e:j=i
  ·subst e;rw[wF rfl];simp
  ·rw[wI e]
   simp[e]
 ·rw[wI (by omega),wak (by rw[Fm];omega),wak (by rw[Fm];omega)]
theorem zhU{n k:Nat}(h:k<n):over [.bool true] k (rC k n)=rC (k+1) n:=by
 refine waR fun j=>?_
 rw[J2 _ _ _ (by rw[Fo];exact h)]
 by_cases hj:j<n
 ·rw[J1 hj,J1 hj]
  by_cases e:j=k
  ·subst e;rw[wF rfl];simp
  ·rw[wI e]
   congr 2
   exact decide_eq_decide.2 (by omega)
 ·rw[wI (by omega),wak (by rw[Fo];omega),wak (by rw[Fo];omega)]
theorem zhV{k n:Nat}(h:k≤n):rC k n++[.bool false]=rC k (n+1):=by
 unfold rC
 rw[List.range_succ,waT,List.map_singleton,wx (by omega)]
structure Ans where
 e:Int
 h:Int
 vk:Int
 vx:Int
 w:Int
 b:Bool
 k:Int
 f:Int
 r:Int
deriving DecidableEq
def Cc(a:Ans):List Value:=[.int .i64 a.e,.int .i64 a.h,.int .i64 a.vk,.int .i64 a.vx,.int .u64 a.w,.bool a.b,.int .i64 a.k,.int .i64 a.f,.int .i64 a.r]
def RAns:Heap→List Value→Ans→Prop:=fun _ part a=>part=Cc a
theorem RAns.mono:oj RAns:=fun _ _ _ _ _ h=>h
theorem zg4(a b:Ans):a=b↔a.e=b.e∧a.h=b.h∧(a.vk=b.vk∧a.vx=b.vx)∧a.w=b.w∧a.b=b.b∧a.k=b.k∧a.f=b.f∧a.r=b.r:=by
 cases a;cases b
 simp only[Ans.mk.injEq,and_assoc]
theorem kN(a b:Int):eqI a b=decide (a=b):=(gF a b).trans rfl
theorem mu{ev:TypeId→Value→Value→Option Bool}{xs ys:List Value}{o:Nat}{t:TypeId}{fs:List (Nat×TypeId)}{a b:Value}{p q:Prop}[Decidable p][Decidable q](h1:jC E t xs o=some a)(h2:jC E t ys o=some b)(h3:ev t a b=some (decide p))(h4:eqFields E ev xs ys fs=some (decide q)):eqFields E ev xs ys ((o,t)::fs)=some (decide (p∧q)):=by
 rw[eqFields,h1,h2,wo,wo,h3,wo]
 by_cases h:p
 ·rw[wz h]
  show eqFields E ev xs ys fs=_
  rw[h4,decide_eq_decide.2 (show q↔p∧q from⟨fun x=>⟨h,x⟩,fun x=>x.2⟩)]
 ·rw[wx h,wx (fun x=>h x.1)]
theorem E5{ev:TypeId→Value→Value→Option Bool}{xs ys:List Value}{o:Nat}{t:TypeId}{a b:Value}{p:Prop}[Decidable p](h1:jC E t xs o=some a)(h2:jC E t ys o=some b)(h3:ev t a b=some (decide p)):eqFields E ev xs ys [(o,t)]=some (decide p):=by
 rw[eqFields,h1,h2,wo,wo,h3,wo]
 by_cases h:p
 ·rw[wz h];rfl
 ·rw[wx h]
theorem zg5(a b:Ans)(d:Nat):eqV E (d+3) 102 (.agg (Cc a).toArray) (.agg (Cc b).toArray)=some (decide (a=b)):=by
 rw[decide_eq_decide.2 (zg4 a b),zd4]
 refine mu (a:= .int .i64 a.e) (b:= .int .i64 b.e) kq kq (by rw[eq_33,kN]) (
  mu (a:= .int .i64 a.h) (b:= .int .i64 b.h) kq kq (by rw[eq_3,kN]) (
  mu (a:= .agg #[.int .i64 a.vk,.int .i64 a.vx]) (b:= .agg #[.int .i64 b.vk,.int .i64 b.vx]) kq kq ((Pp _ _ _).trans (mu (a:= .int .i64 a.vk) (b:= .int .i64 b.vk) kq kq (by rw[eq_3,kN]) (E5 (a:= .int .i64 a.vx) (b:= .int .i64 b.vx) kq kq (by rw[eq_2,kN])))) (
  mu (a:= .int .u64 a.w) (b:= .int .u64 b.w) kq kq (by rw[zda,kN]) (
  mu (a:= .bool a.b) (b:= .bool b.b) kq kq (by rw[eq_4];cases a.b<;>cases b.b<;>rfl) (
  mu (a:= .int .i64 a.k) (b:= .int .i64 b.k) kq kq (by rw[eq_3,kN]) (
  mu (a:= .int .i64 a.f) (b:= .int .i64 b.f) kq kq (by rw[eq_3,kN]) (
  E5 (a:= .int .i64 a.r) (b:= .int .i64 b.r) kq kq (by rw[eq_3,kN]))))))))
theorem ru(x y:Operand)(a b:Ans):binV E .neq 102 x y (.agg (Cc a).toArray) (.agg (Cc b).toArray)=some (.bool (!decide (a=b))):=by
 show(eqV E (97+3) 102 _ _).bind _=_
 rw[zg5];rfl
theorem zg6(H:Heap)(an:H.lo≤H.next)(va vb:Value)(l m:List Ans)(ha:SLr RAns 9 H va l)(hb:SLr RAns 9 H vb m):af E (aK 53) [va,vb] H fun r H'=>r= .bool (decide (l=m))∧aq H H':=by
 obtain⟨⟨a,ca,rfl,⟨_,ft⟩,bs⟩, -⟩:=ha
 obtain⟨⟨b,cb,rfl,⟨_,me⟩,fh⟩, -⟩:=hb
 refine aV Tryz.f53 ?_
 simp only[Tryz.f53]
 by_cases bj:l.length=m.length
 ·have hd:decide ((l.length:Int)=m.length)=true:=wz (by omega)
  simp(disch:=omega)only[↓aa,ab,simprocAttr,sa, *]
  all_goals try omega
  refine bP H [0,1,5] (fun T1 H1 u1 k1 n1 l1 g1=>?_) aj
  try simp(disch:=omega)only[sm,sl]at n1 l1 g1
  simp only[sq,simprocAttr]at u1
  refine bL kq (fun nn T X=>∃ i:Nat,nn=l.length-i∧(T.get 5=some (.int .i64 i))∧(T.get 0=T1.get 0∧T.get 1=T1.get 1)∧Ko H1 X∧X.lo=H1.lo∧(i≤l.length∧l.take i=m.take i)) ?_ ?_
  ·refine⟨_,0,rfl,?_,?_,Ko.refl _,rfl,⟨wJ _,rfl⟩⟩<;>exact aJ
  rintro nn dA X1 ⟨i,rfl,m1,w1,kx1,eQ,⟨hi,hE⟩⟩ Qs hQ aG ai
  have bz:=k1.trans kx1;have dZ:=kx1.ag;have ed:=kx1.objs
  by_cases hlt:i<l.length
  ·obtain⟨r,o,cells,gg,tt,part,rfl,hr,aC,aR,rfl⟩:=bs i l[i] (by simp)
   obtain⟨r2,o2,gy,jP,jQ,jR,rfl,cq,fZ,cM,rfl⟩:=fh i m[i] (by simp)
   have a1:=bn hlt
   have a2:=bn (show i<m.length by omega)
   have e1:=bz.objs r hr
   have e2:=bz.objs r2 cq
   have hx:l[i]? =some l[i]:=wj hlt
   have hy:m[i]? =some m[i]:=wj (by omega)
   generalize l[i]=x at aR hx
   generalize m[i]=y at cM hy
   have c1:=aR
   have c2:=cM
   have hn:=fun p q=>ru p q x y
   by_cases bE:x=y
   ·have h3:l.take (i+1)=m.take (i+1):=by rw[wR,wR,hE,hx,hy,bE]
    have hc:decide (x=y)=true:=wz (by rw[bE])
    clear bE
    clear hE
    repeat'(first|(apply ak<;>intro)|refine aw 6 [Fx,Fx,Fx,Fx,Fx,Fx,Fx,Fx,Fx] ?_|((with_reducible show Qs _ _ _ _ _);refine ai _ _ _ _ ?_)|simp(disch:=omega)only[↓aa,ab,simprocAttr,sa,↓ru, *])
    all_goals first|(refine hQ _ _ _ ?_ ⟨i+1,rfl,?_,?_,?_,?_,⟨by omega,h3⟩⟩<;>exact aJ)|omega|trace_state
   ·have h3:decide (l=m)=false:=wx fun e=>by rw[e,hy]at hx;exact bE (waH hx).symm
    have hc:decide (x=y)=false:=wx bE
    clear bE
    clear hE
    repeat'(first|(apply ak<;>intro)|refine aw 6 [Fx,Fx,Fx,Fx,Fx,Fx,Fx,Fx,Fx] ?_|((with_reducible show Qs _ _ _ _ _);first|refine ai _ _ _ _ ?_|refine aG _ _ _ ?_)|simp(disch:=omega)only[↓aa,ab,simprocAttr,sa,↓ru, *])
    all_goals exact bq
  ·have hT:decide (l=m)=true:=wz (by
    have:i=l.length:=by omega
    subst this
    rw[waj,bj,waj]at hE
    exact hE)
   repeat'(first|(apply ak<;>intro)|refine aw 6 [Fx,Fx,Fx,Fx,Fx,Fx,Fx,Fx,Fx] ?_|((with_reducible show Qs _ _ _ _ _);refine ai _ _ _ _ ?_)|simp(disch:=omega)only[↓aa,ab,simprocAttr,sa, *])
   all_goals exact bq
 ·have hF:decide (l=m)=false:=wx fun e=>bj (by rw[e])
  have hd:decide ((l.length:Int)=m.length)=false:=wx (by omega)
  simp(disch:=omega)only[↓aa,ab,simprocAttr,sa, *]
  all_goals exact bq
def oU(l m:List Ans)(x:Int):Prop:=(x= -1∧l=m)∨∃ i:Nat,x=i∧l.take i=m.take i∧l[i]?≠m[i]?
theorem zg7{l m:List Ans}{x y:Int}(hx:oU l m x)(hy:oU l m y):x=y:=by
 have key:∀ i j:Nat,l[i]?≠m[i]?→l.take j=m.take j→j≤i:=fun i j h1 h2=>by
  refine wcF fun h=>h1 ?_
  have:=congrArg (fun t:List Ans=>t[i]?) h2
  simpa only[wab,wF h]using this
 rcases hx with⟨rfl,h⟩|⟨i,rfl,h1,h2⟩<;>rcases hy with⟨rfl,h'⟩|⟨j,rfl,h3,h4⟩
 ·rfl
 ·exact absurd (by rw[h]) h4
 ·exact absurd (by rw[h']) h2
 ·have:=key i j h2 h3
  have:=key j i h4 h1
  omega
theorem zg8(H:Heap)(an:H.lo≤H.next)(va vb:Value)(l m:List Ans)(ha:SLr RAns 9 H va l)(hb:SLr RAns 9 H vb m):af E (aK 23) [va,vb] H fun r H'=>(∃x,r= .int .i64 x∧oU l m x)∧aq H H':=by
 obtain⟨⟨a,ca,rfl,⟨_,ft⟩,bs⟩, -⟩:=ha
 obtain⟨⟨b,cb,rfl,⟨_,me⟩,fh⟩, -⟩:=hb
 refine aV Tryz.f23 ?_
 simp only[Tryz.f23]
 simp(disch:=omega)only[↓aa,ab,simprocAttr,sa, *]
 all_goals try omega
 refine bP H [0,1,5] (fun T1 H1 u1 k1 n1 l1 g1=>?_) aj
 try simp(disch:=omega)only[sm,sl]at n1 l1 g1
 simp only[sq,simprocAttr]at u1
 refine bL kq (fun nn T X=>∃ i:Nat,nn=l.length+m.length-i∧(T.get 5=some (.int .i64 i))∧(T.get 0=T1.get 0∧T.get 1=T1.get 1)∧Ko H1 X∧X.lo=H1.lo∧(i≤l.length∧i≤m.length∧l.take i=m.take i)) ?_ ?_
 ·refine⟨_,0,rfl,?_,?_,Ko.refl _,rfl,⟨wJ _,wJ _,rfl⟩⟩<;>exact aJ
 rintro nn dA X1 ⟨i,rfl,m1,w1,kx1,eQ,⟨hi,hj,hE⟩⟩ Qs hQ aG ai
 have bz:=k1.trans kx1;have dZ:=kx1.ag;have ed:=kx1.objs
 by_cases zv:i<l.length<;>by_cases zw:i<m.length
 ·obtain⟨r,o,cells,gg,tt,part,rfl,hr,aC,aR,rfl⟩:=bs i l[i] (by simp)
  obtain⟨r2,o2,gy,jP,jQ,jR,rfl,cq,fZ,cM,rfl⟩:=fh i m[i] (by simp)
  have a1:=bn zv
  have a2:=bn zw
  have e1:=bz.objs r hr
  have e2:=bz.objs r2 cq
  have d1:decide ((i:Int)<l.length)=true:=wz (by omega)
  have d2:decide ((i:Int)<m.length)=true:=wz (by omega)
  have d3:decide ((l.length:Int)≤i)=false:=wx (by omega)
  have d4:decide ((m.length:Int)≤i)=false:=wx (by omega)
  have hx:l[i]? =some l[i]:=wj zv
  have hy:m[i]? =some m[i]:=wj zw
  generalize l[i]=x at aR hx
  generalize m[i]=y at cM hy
  by_cases bE:x=y
  ·have h3:l.take (i+1)=m.take (i+1):=by rw[wR,wR,hE,hx,hy,bE]
   have hc:decide (x=y)=true:=wz (by rw[bE])
   clear bE hE hx hy
   repeat'(first|refine aw 4 [Fx,Fx,Fx,Fx,Fx,Fx,Fx,Fx,Fx,Fx,Fx,Fx,Fx,Fx,Fx,Fx,Fx,Fx,Fx,Fx,Fx] ?_|simp(disch:=omega)only[↓aa,ab,simprocAttr,sa,↓ru, *])
   all_goals first|(refine hQ _ _ _ ?_ ⟨i+1,rfl,?_,?_,?_,?_,⟨by omega,by omega,h3⟩⟩<;>exact aJ)|omega|trace_state
  ·have hc:decide (x=y)=false:=wx bE
   have hF:oU l m i:= .inr ⟨i,rfl,hE,by rw[hx,hy];exact fun e=>bE (waH e)⟩
   clear bE hE hx hy
   repeat'(first|refine aw 4 [Fx,Fx,Fx,Fx,Fx,Fx,Fx,Fx,Fx,Fx,Fx,Fx,Fx,Fx,Fx,Fx,Fx,Fx,Fx,Fx,Fx] ?_|((with_reducible show Qs _ _ _ _ _);refine aG _ _ _ ?_)|simp(disch:=omega)only[↓aa,ab,simprocAttr,sa,↓ru, *])
   all_goals first|exact⟨⟨_,rfl,hF⟩,aA⟩|omega|trace_state
 ·have d1:decide ((i:Int)<l.length)=true:=wz (by omega)
  have d3:decide ((l.length:Int)≤i)=false:=wx (by omega)
  have d4:decide ((m.length:Int)≤i)=true:=wz (by omega)
  have hF:oU l m i:= .inr ⟨i,rfl,hE,by rw[wj zv,wak (by omega)];exact fun e=>by cases e⟩
  clear hE
  repeat'(first|refine aw 4 [Fx,Fx,Fx,Fx,Fx,Fx,Fx,Fx,Fx,Fx,Fx,Fx,Fx,Fx,Fx,Fx,Fx,Fx,Fx,Fx,Fx] ?_|((with_reducible show Qs _ _ _ _ _);refine aG _ _ _ ?_)|simp(disch:=omega)only[↓aa,ab,simprocAttr,sa,↓ru, *])
  all_goals first|exact⟨⟨_,rfl,hF⟩,aA⟩|omega|trace_state
 ·have d1:decide ((i:Int)<l.length)=false:=wx (by omega)
  have d2:decide ((i:Int)<m.length)=true:=wz (by omega)
  have d3:decide ((l.length:Int)≤i)=true:=wz (by omega)
  have hF:oU l m i:= .inr ⟨i,rfl,hE,by rw[wj zw,wak (by omega)];exact fun e=>by cases e⟩
  clear hE
  repeat'(first|refine aw 4 [Fx,Fx,Fx,Fx,Fx,Fx,Fx,Fx,Fx,Fx,Fx,Fx,Fx,Fx,Fx,Fx,Fx,Fx,Fx,Fx,Fx] ?_|((with_reducible show Qs _ _ _ _ _);refine aG _ _ _ ?_)|simp(disch:=omega)only[↓aa,ab,simprocAttr,sa,↓ru, *])
  all_goals first|exact⟨⟨_,rfl,hF⟩,aA⟩|omega|trace_state
 ·have d1:decide ((i:Int)<l.length)=false:=wx (by omega)
  have d2:decide ((i:Int)<m.length)=false:=wx (by omega)
  have hF:oU l m (-1):= .inl ⟨rfl,by
   have:i=l.length:=by omega
   subst this
   rwa [waj,wZ (by omega)]at hE⟩
  clear hE
  repeat'(first|((with_reducible show Qs _ _ _ _ _);refine ai _ _ _ _ ?_)|simp(disch:=omega)only[↓aa,ab,simprocAttr,sa,↓ru, *])
  all_goals first|exact⟨⟨_,rfl,hF⟩,aA⟩|omega|trace_state
theorem zg9(a b:Nat):minV (.int .i64 a) [.int .i64 b]=some (.int .i64 (Nat.min a b:Nat)):=by
 show some (Value.int .i64 (bif mI b a then b else a))=_
 rw[show mI b a=decide ((b:Int)<a)from(pE _ _).trans rfl]
 by_cases h:(b:Int)<a
 ·rw[wz h,wai,show Nat.min a b=b from Nat.min_eq_right (by omega)]
 ·rw[wx h,wS,show Nat.min a b=a from waS (by omega)]
theorem zha(H:Heap)(ts:List TypeId)(a b:Nat):builtinV E H Builtin.min ts [.int .i64 a,.int .i64 b]=some (.int .i64 (Nat.min a b:Nat),H):=by
 simp only[builtinV,zg9,wo]
theorem Qx(H:Heap)(an:H.lo≤H.next)(va vb:Value)(l m:List Ans)(ha:SLr RAns 9 H va l)(hb:SLr RAns 9 H vb m):af E (aK 22) [va,vb] H fun r H'=>(∃x,r= .int .i64 x∧oU l m x)∧aq H H':=by
 obtain⟨⟨a,ca,rfl,⟨_,ft⟩,bs⟩, -⟩:=ha
 obtain⟨⟨b,cb,rfl,⟨_,me⟩,fh⟩, -⟩:=hb
 have zhb:=fun X t=>zha X t l.length m.length
 have jJ:Nat.min l.length m.length≤l.length:=Nat.min_le_left _ _
 have hn2:Nat.min l.length m.length≤m.length:=Nat.min_le_right _ _
 have xo:l.length≤Nat.min l.length m.length∨m.length≤Nat.min l.length m.length:=by
  rcases Nat.le_total l.length m.length with h|h
  ·exact .inl (Nat.le_min.2 ⟨wy _,h⟩)
  ·exact .inr (Nat.le_min.2 ⟨h,wy _⟩)
 generalize Nat.min l.length m.length=n at*
 refine aV Tryz.f22 ?_
 simp only[Tryz.f22]
 simp(disch:=omega)only[↓aa,ab,simprocAttr,sa,zhb, *]
 all_goals try omega
 refine bP H [0,1,5,12,13] (fun T1 H1 u1 k1 n1 l1 g1=>?_) aj
 try simp(disch:=omega)only[sm,sl]at n1 l1 g1
 simp only[sq,simprocAttr]at u1
 refine bL kq (fun nn T X=>∃ i:Nat,nn=n-i∧(T.get 13=some (.int .i64 i))∧(T.get 0=T1.get 0∧T.get 1=T1.get 1∧T.get 5=T1.get 5∧T.get 12=T1.get 12)∧Ko H1 X∧X.lo=H1.lo∧(i≤n∧l.take i=m.take i)) ?_ ?_
 ·refine⟨_,0,rfl,?_,?_,Ko.refl _,rfl,⟨wJ _,rfl⟩⟩<;>exact aJ
 rintro nn dA X1 ⟨i,rfl,m1,w1,kx1,eQ,⟨hi,hE⟩⟩ Qs hQ aG ai
 have bz:=k1.trans kx1;have dZ:=kx1.ag;have ed:=kx1.objs
 by_cases hlt:i<n
 ·have zv:i<l.length:=by omega
  have zw:i<m.length:=by omega
  obtain⟨r,o,cells,gg,tt,part,rfl,hr,aC,aR,rfl⟩:=bs i l[i] (by simp)
  obtain⟨r2,o2,gy,jP,jQ,jR,rfl,cq,fZ,cM,rfl⟩:=fh i m[i] (by simp)
  have a1:=bn zv
  have a2:=bn zw
  have e1:=bz.objs r hr
  have e2:=bz.objs r2 cq
  have d1:decide ((i:Int)<n)=true:=wz (by omega)
  have hx:l[i]? =some l[i]:=wj zv
  have hy:m[i]? =some m[i]:=wj zw
  generalize l[i]=x at aR hx
  generalize m[i]=y at cM hy
  by_cases bE:x=y
  ·have h3:l.take (i+1)=m.take (i+1):=by rw[wR,wR,hE,hx,hy,bE]
   have hc:decide (x=y)=true:=wz (by rw[bE])
   clear bE hE hx hy
   repeat'(first|refine aw 5 [Fx,Fx,Fx,Fx,Fx,Fx,Fx,Fx,Fx] ?_|simp(disch:=omega)only[↓aa,ab,simprocAttr,sa,↓ru, *])
   all_goals first|(refine hQ _ _ _ ?_ ⟨i+1,rfl,?_,?_,?_,?_,⟨by omega,h3⟩⟩<;>exact aJ)|omega|trace_state
  ·have hc:decide (x=y)=false:=wx bE
   have hF:oU l m i:= .inr ⟨i,rfl,hE,by rw[hx,hy];exact fun e=>bE (waH e)⟩
   clear bE hE hx hy
   repeat'(first|refine aw 5 [Fx,Fx,Fx,Fx,Fx,Fx,Fx,Fx,Fx] ?_|((with_reducible show Qs _ _ _ _ _);refine aG _ _ _ ?_)|simp(disch:=omega)only[↓aa,ab,simprocAttr,sa,↓ru, *])
   all_goals first|exact⟨⟨_,rfl,hF⟩,aA⟩|omega|trace_state
 ·have d1:decide ((i:Int)<n)=false:=wx (by omega)
  have cf:i=n:=by omega
  subst cf
  by_cases bj:l.length=m.length
  ·have d2:decide ((l.length:Int)=m.length)=true:=wz (by omega)
   have hF:oU l m (-1):= .inl ⟨rfl,by
    rwa [wZ (by omega),wZ (by omega)]at hE⟩
   clear hE bj
   repeat'(first|((with_reducible show Qs _ _ _ _ _);refine ai _ _ _ _ ?_)|simp(disch:=omega)only[↓aa,ab,simprocAttr,sa, *])
   all_goals first|exact⟨⟨_,rfl,hF⟩,aA⟩|omega|trace_state
  ·have d2:decide ((l.length:Int)=m.length)=false:=wx (by omega)
   have hF:oU l m i:= .inr ⟨i,rfl,hE,by
    intro e
    by_cases h1:i<l.length
    ·rw[wj h1,wak (by omega)]at e;cases e
    ·rw[wak (by omega),wj (show i<m.length by omega)]at e;cases e⟩
   clear hE bj
   repeat'(first|((with_reducible show Qs _ _ _ _ _);refine ai _ _ _ _ ?_)|simp(disch:=omega)only[↓aa,ab,simprocAttr,sa, *])
   all_goals first|exact⟨⟨_,rfl,hF⟩,aA⟩|omega|trace_state
end Go.AM
