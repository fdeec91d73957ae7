/-
  Walks over letters of the functions that the law reaches; written small by a program of mine.
-/
import Derived.Test.YtjgppeeplkidpaaGreatGV8
import Derived.Test.YtjgppeeplkidpaaGreatGV4
import Derived.Test.YtjgppeeplkidpaaGreatGYN
import Derived.Test.YtjgppeeplkidpaaGreatGYG
import Derived.Test.YtjgppeeplkidpaaGreatGC17
import Derived.Test.YtjgppeeplkidpaaGreatGC8
set_option linter.unusedVariables false
set_option linter.unusedSectionVars false
namespace Go.AM
attribute [local instance] fnMaps
open Go Go.Proofs
set_option maxRecDepth 100000
set_option maxHeartbeats 4000000
set_option linter.unusedSimpArgs false
theorem OE.cz{b z n:Nat}{H H':Heap}{v:Value}{cs:List Value}(h:OE b z H v n cs)(s:Ko H H'):OE b z H' v n cs:=by
 rcases h with⟨go,h⟩|⟨h1,h2,q,h3,h4,h5,h6⟩
 ·exact .inl ⟨go,h.ko s⟩
 ·exact .inr ⟨h1,h2,q,h3,h4,wq h5 s.ag,(s.objs q h5).trans h6⟩
theorem Jy{b z:Nat}{H:Heap}(hb:b≤H.next)(part:List Value):eA b H.next H (H.dx z part):=
 ⟨yv z part,by rw[fW];omega,fun x hx=>⟨by rw[iM,au (by omega)];rfl,by rw[jN,au (by omega)];rfl⟩,fun x o hx ho _=>by rw[iM,au (by omega)];exact ho,fun y hy _=>by rw[jN,au (by omega)];rfl⟩
theorem OE.app{b z n bytes:Nat}{H:Heap}{v:Value}{cs part:List Value}(h:OE b z H v n cs)(hb:b≤H.next)(aj:H.lo≤b)(hp:part.length=z)(hc:part.all isCell=true)(bh:ed z bytes (n+1)=true):
  ∃v' H' g',appendT z bytes H v 1 part=some (v',H')∧OE b z H' v' (n+1) (cs++part)∧eA b g' H H':=by
 rcases h with⟨go,h⟩|⟨rfl,rfl,q,rfl,h4,h5,h6⟩
 ·obtain⟨v',H',g',h1,h2,h3,_⟩:=h.app hb aj hp hc bh
  exact⟨v',H',g',h1,.inl ⟨_,h2⟩,h3⟩
 ·refine⟨_,_,H.next,yz h6 (by decide) bh,.inl ⟨some H.next,?_⟩,Jy hb part⟩
  rw[wL]
  exact OS.dx hb (by decide) (by omega)
theorem OE.reads{b z n:Nat}{α:Type}{R:Heap→List Value→α→Prop}{l:List α}{H:Heap}{v:Value}{cs:List Value}(h:OE b z H v n cs)(hl:l.length=n)(cg:n≤1000000000)(hR:dD R z H cs l):aZ R z H v l:=by
 rcases h with⟨go,h⟩|⟨rfl,rfl,q,rfl,h4,h5,h6⟩
 ·exact h.reads hl cg hR
 ·have:l=[]:=wac hl
  subst this
  refine⟨⟨_,0,rfl,⟨wy _,wJ _⟩,fun i x h=>by simp at h⟩,fun a m c e=>?_⟩
  simp only[waq]at e
  obtain⟨rfl,_,_⟩:=e
  exact .inr ⟨q,[],_,_,rfl,h5,h6⟩
theorem zhq(H:Heap)(aj:H.lo≤H.next){s:St}{w t f zl:Value}(hS:iQ H s w t f zl)(cx:sE s)(hl:s.words.length≤400)(lj:s.table.length≤100):af E (aC 60) [df s w t f zl] H fun r H'=>
  ((ef s=0→∃ v,r= .tuple #[v,.int .i64 0]∧aZ (dd .i64) 1 H' v (aU s))∧(ef s≠0→r= .tuple #[.slice none 0 0,.int .i64 4]))∧aq H H':=by
 have c1:=fun(X:Heap) (hx:X.lo≤X.next) (k:Ko H X)=>zaZ X hx (hS.ko k) cx
 have qE:=hS.t
 obtain⟨⟨wa,wc,rfl,_⟩,_⟩:=hS.w
 obtain⟨⟨ta,tc,rfl,⟨_,Cw⟩,hta⟩,_⟩:=hS.t
 obtain⟨⟨fa,fc,rfl,_⟩,_⟩:=hS.f
 obtain⟨⟨za,zc,rfl,_⟩,_⟩:=hS.sl
 clear hS
 unfold df at c1
 refine aQ Tryz.f60 ?_
 simp only[Tryz.f60]
 unfold df
 simp(disch:=omega)only[↓aa,ab,simprocAttr,sa, *]
 refine af.mono (c1 _ ah aw) ?_
 rintro _ Y ⟨lp,rfl,h1,h2,sY,Q7⟩
 have kY:Ko H Y:=Ko.call aw sY
 have lY:=sY.lo;have nY:=sY.ag;have gY:=sY.objs
 simp(disch:=omega)only[sm,sl]at h1 lY nY gY
 have bY:=gY H.next (by omega)
 clear sY gY
 by_cases h0:ef s=0
 ·obtain⟨a,Jz,m,dT,hk⟩:=Q7 h0
  have aG:=hk.row
  have gx:=hk.small
  rw[h0]
  unfold gB at aG
  have c2:=fun(X:Heap) (hx:X.lo≤X.next) (k:Ko Y X)=>zhp X hx dT (da s).1 (gx.ko (dd.mono _) k) (by have:=xg s;omega)
  simp(disch:=omega)only[↓aa,ab,simprocAttr,sa, *]
  all_goals try omega
  refine af.mono (c2 _ ah aw) ?_
  rintro v0 Z ⟨hO,sZ⟩
  have kZ:Ko H Z:=kY.call sZ
  have lZ:=sZ.lo;have nZ:=sZ.ag
  have bZ:=(sZ.objs H.next (by omega)).trans bY
  have ng:isCell v0=true:=by
   rcases hO with⟨go,h⟩|⟨_,_,q,h,_⟩
   ·cases go with
    |none=>rw[h.1];rfl
    |some g=>obtain⟨_,_,_,_,h,_⟩:=h;rw[h];rfl
   ·rw[h];rfl
  clear c1 c2 gx aG Q7 bY hk
  simp(disch:=omega)only[↓aa,ab,simprocAttr,sa, *]
  all_goals try omega
  refine bC Z [6,22,23,24] (fun T1 H1 u1 j1 n1 l1 g1=>?_) aw
  try simp(disch:=omega)only[sm,sl]at n1 l1 g1
  simp only[sq,simprocAttr]at u1
  refine bt kq (fun nn T X=>∃ (i:Nat) (v:Value),nn=s.table.length-i∧(T.get 6=some (v)∧T.get 24=some (.int .i64 i))∧(T.get 22=T1.get 22∧T.get 23=T1.get 23)∧True∧True∧(i≤s.table.length∧OE Y.next 1 X v ((da s).1.length+i) (((da s).1++(s.table.take i).map (·.ae)).map db)∧aq Y X)) ?_ ?_
  ·have nE:=hO.cz j1
   rw[←waw (da s).1]at nE
   refine⟨_,0,_,rfl,?_,?_,trivial,trivial,wJ _,by simpa using nE,sZ.trans (j1.same l1)⟩<;>exact ay
  rintro nn fk X1 ⟨i,vo,rfl,m1,w1,_,_,hi,nE,BH⟩ Qs hQ aD ai
  have kX:=kY.trans BH.ko
  have lX:=BH.lo;have nX:=BH.ag
  by_cases hlt:i<s.table.length
  ·obtain⟨r,o,cells,gg,tt,part,rfl,hr,aG,a8,rfl⟩:=hta i s.table[i] (by simp)
   have a1:=bI hlt
   have e1:=(kX.objs r hr).trans aG
   have iU:s.table.take (i+1)=s.table.take i++[s.table[i]]:=by rw[wR,wj hlt];rfl
   generalize s.table[i]=x at*
   have sl1:=xg s
   have eO:=nE.cz (H':=((X1.newRow [.int .i64 0,.int .i64 0]).setRow X1.next [.int .i64 x.ae,.int .i64 x.size]).newRow [.int .i64 x.ae]) aw
   obtain⟨v4,H4,g4,ha4,mE,kO⟩:=eO.app (bytes:=8) (part:=[.int .i64 x.ae]) (by simp(disch:=omega)only[aA,aM,aB,aJ,aH,aI,aN,aO,aR,aP,aL,aE,aK,au,sl];omega) (by simp(disch:=omega)only[aA,aM,aB,aJ,aH,aI,aN,aO,aR,aP,aL,aE,aK,au,sl];omega) rfl rfl (mW (by omega))
   have Q8:aq Y H4:=⟨by rw[kO.lo];simp(disch:=omega)only[aA,aM,aB,aJ,aH,aI,aN,aO,aR,aP,aL,aE,aK,au,sl];omega,by have:=kO.ag;simp(disch:=omega)only[sm,sl]at this;omega,fun y hy=>by rw[(kO.below y hy).1];simp(disch:=omega)only[aA,aM,aB,aJ,aH,aI,aN,aO,aR,aP,aL,aE,aK,au,sl];exact BH.objs y hy,fun y hy=>by rw[(kO.below y hy).2];simp(disch:=omega)only[aA,aM,aB,aJ,aH,aI,aN,aO,aR,aP,aL,aE,aK,au,sl];exact BH.grps y hy⟩
   have BI:((da s).1++(s.table.take i).map (·.ae)).map db++[.int .i64 x.ae]=((da s).1++(s.table.take (i+1)).map (·.ae)).map db:=by
    rw[iU];simp[db]
   rw[BI,wbH]at mE
   have lo4:=Q8.lo
   clear nE eO iU BI kO
   repeat'(first|(apply ao<;>intro)|((with_reducible show Qs _ _ _ _ _);refine ai _ _ _ _ ?_)|simp(disch:=omega)only[↓aa,ab,simprocAttr,sa,cC,iN,eF,waV,waZ,waw,wY,waA, *])
   all_goals first|(refine hQ _ _ _ ?_ ⟨i+1,v4,rfl,?_,?_,trivial,trivial,by omega,mE,Q8⟩<;>exact ay)|omega|trace_state
  ·have ei:i=s.table.length:=by omega
   rw[ei,waj]at nE
   have hR:=nE.reads (l:=aU s) (by unfold aU;rw[wN,wO]) (by have:=xg s;omega) (Ej X1 (aU s))
   have ziA:isCell vo=true:=by
    rcases nE with⟨go,h⟩|⟨_,_,q,h,_⟩
    ·cases go with
     |none=>rw[h.1];rfl
     |some g=>obtain⟨_,_,_,_,h,_⟩:=h;rw[h];rfl
    ·rw[h];rfl
   clear nE
   repeat'(first|(apply ao<;>intro)|((with_reducible show Qs _ _ _ _ _);refine ai _ _ _ _ ?_)|simp(disch:=omega)only[↓aa,ab,simprocAttr,sa, *])
   all_goals try omega
   refine⟨?_,aF⟩
   first|exact⟨fun _=>⟨_,rfl,hR⟩,fun q=>absurd rfl q⟩|exact⟨_,rfl,hR⟩|exact⟨fun _=>⟨_,rfl,hR⟩,fun q=>q.elim⟩
 ·have hd:decide (ef s=0)=false:=wx h0
  simp(disch:=omega)only[↓aa,ab,simprocAttr,sa, *]
  all_goals try omega
  refine⟨?_,aF⟩
  first|exact⟨fun q=>absurd q h0,fun _=>rfl⟩|exact⟨fun q=>q.elim,fun _=>trivial⟩
theorem JI(l:List bM):(l.flatMap cy).length=l.length*2:=by
 induction l with
 |nil=>rfl
 |cons x l ih=>rw[wbm,wN,ih,wY];simp only[cy,wY,waA];omega
theorem Ro:∀ (l:List bM) (i:Nat) (x:bM),l[i]? =some x→cut (l.flatMap cy) (i*2) 2=some (cy x)
 |[],i,x,h=>by simp at h
 |y::l,0,x,h=>by
  simp only[wQ,wi]at h
  subst h
  rw[dB,wbm,wF (by simp[cy])]
  simp[cy]
 |y::l,i+1,x,h=>by
  have ih:=Ro l i x (by simpa using h)
  have hi:=(wD.1 h).1
  rw[wY]at hi
  rw[dB,JI,wF (by omega)]at ih
  rw[dB,JI,wY,wF (by omega),←ih]
  simp only[wbm,cy,wat,wL,waW,waV]
theorem EO{H:Heap}{l:List bM}:dD dP 2 H (l.flatMap cy) l:=⟨JI l,fun i x hx=>⟨_,Ro l i x hx,rfl⟩⟩
theorem zhw{l:List Int}{x:Int}{i:Nat}(h:i<l.length)(hn:l[i]≠x)(he:l.idxOf x=i+(l.drop i).idxOf x):l.idxOf x=i+1+(l.drop (i+1)).idxOf x:=by
 rw[he,wX h,wb3,beq_eq_false_iff_ne.2 hn,wS]
 omega
theorem zhx{l:List Int}{x:Int}{i:Nat}(h:i<l.length)(hn:l[i]=x)(he:l.idxOf x=i+(l.drop i).idxOf x):l.idxOf x=i:=by
 rw[he,wX h,wb3,wbO.2 hn,wai,waX]
theorem Re(H:Heap)(aj:H.lo≤H.next)(v:Value)(all:List Int)(hv:aZ (dd .i64) 1 H v all)(w:Nat)(hw:w<2^64)(hl:uO all w):af E (aC 71) [v,.int .u64 w] H fun r H'=>r=cX (ey all w)∧aq H H':=by
 obtain⟨u,hu,hm⟩:=hl
 have c1:=fun(X:Heap) (hx:X.lo≤X.next)=>uL X hx w hw
 have ht:ey all w=if u.kind=2 then⟨2,(all.idxOf u.x:Nat)⟩else u:=by unfold ey;rw[hu];rfl
 rw[hu]at c1
 simp only[wbr,wb1,wah]at c1
 clear hu
 obtain⟨⟨a,ca,rfl,⟨_,jP⟩,bJ⟩, -⟩:=hv
 obtain⟨R,hR⟩:∃ R,ey all w=R:=⟨_,rfl⟩
 rw[hR]at ht⊢
 clear hR
 have hH:Hid (R=if u.kind=2 then⟨2,(all.idxOf u.x:Nat)⟩else u):=ht
 clear ht
 unfold cX at c1⊢
 refine aQ Tryz.f71 ?_
 simp only[Tryz.f71]
 repeat'(first|((with_reducible show af _ _ _ _ _);refine ak H (c1 _ ah) ?_;intro H2 k2 l2 n2 g2 q2;try simp(disch:=omega)only[sm,sl]at l2 n2 g2 q2)|simp(disch:=omega)only[↓aa,ab,simprocAttr,sa, *])
 have h0:u.kind=2→all.idxOf u.x=0+(all.drop 0).idxOf u.x:=fun _=>by rw[wau,waZ]
 refine bC H [0,4,5,7] (fun T1 H1 u1 k1 n1 l1 g1=>?_) aw
 try simp(disch:=omega)only[sm,sl]at n1 l1 g1
 simp only[sq,simprocAttr]at u1
 refine bt kq (fun nn T X=>∃ i:Nat,nn=all.length-i∧(T.get 7=some (.int .i64 i))∧(T.get 0=T1.get 0∧T.get 4=T1.get 4∧T.get 5=T1.get 5)∧Ko H1 X∧X.lo=H1.lo∧(i≤all.length∧(u.kind=2→all.idxOf u.x=i+(all.drop i).idxOf u.x))) ?_ ?_
 ·refine⟨_,0,rfl,?_,?_,Ko.refl _,rfl,⟨wJ _,h0⟩⟩<;>exact ay
 clear h0
 rintro nn fk X1 ⟨i,rfl,m1,w1,bu,iz,⟨hi,hE⟩⟩ Qs hQ aD ai
 have cw:=k1.trans bu;have fp:=bu.ag;have fX:=bu.objs
 have b4:=fX H.next (by omega)
 have b5:=fX H2.next (by omega)
 rw[g1]at b4 b5
 simp(disch:=omega)only[sm,sl]at b4 b5
 rw[g2 H.next (by omega)]at b4
 simp(disch:=omega)only[sm,sl]at b4
 have ht:R=if u.kind=2 then⟨2,(all.idxOf u.x:Nat)⟩else u:=hH
 clear hH
 by_cases hk:u.kind=2
 ·have bz:=hE hk
  have Ev:=hm hk
  rw[wF hk]at ht
  have fC:decide (u.kind=2)=true:=wz hk
  by_cases hlt:i<all.length
  ·obtain⟨r,o,cells,gg,tt,part,rfl,hr,aG,a8,rfl⟩:=bJ i all[i] (by simp)
   have a1:=bI hlt
   have e1:=cw.objs r hr
   have q0:=pQ a8
   by_cases hx:all[i]=u.x
   ·have hI:=zhx hlt hx bz
    rw[hI]at ht
    have hd:decide (u.x=u.x)=true:=wz rfl
    rw[hx]at q0
    clear hx hE bz hm Ev hk hI
    repeat'(first|(apply ao<;>intro)|refine az 5 [Fx,Fx,Fx,Fx,Fx,Fx,Fx,Fx,Fx,Fx,Fx,Fx] ?_|((with_reducible show Qs _ _ _ _ _);first|refine ai _ _ _ _ ?_|refine aD _ _ _ ?_)|simp(disch:=omega)only[↓aa,ab,simprocAttr,sa, *])
    all_goals first|exact xW|omega|trace_state
   ·have hI:=zhw hlt hx bz
    have hd:decide (u.x=all[i])=false:=wx fun q=>hx q.symm
    have JB:u.kind=2→all.idxOf u.x=i+1+(all.drop (i+1)).idxOf u.x:=fun _=>hI
    generalize all[i]=z at*
    clear hx hE bz hm Ev hk hI
    repeat'(first|(apply ao<;>intro)|refine az 5 [Fx,Fx,Fx,Fx,Fx,Fx,Fx,Fx,Fx,Fx,Fx,Fx] ?_|((with_reducible show Qs _ _ _ _ _);refine ai _ _ _ _ ?_)|simp(disch:=omega)only[↓aa,ab,simprocAttr,sa, *])
    all_goals first|(refine hQ _ _ _ ?_ ⟨i+1,rfl,?_,?_,?_,?_,⟨by omega,JB⟩⟩<;>exact ay)|omega|trace_state
  ·exfalso
   rw[waO (by omega)]at bz
   have:=wb6 Ev
   rw[List.idxOf_nil]at bz
   omega
 ·rw[wI hk]at ht
  have fC:decide (u.kind=2)=false:=wx hk
  have JB:u.kind=2→all.idxOf u.x=i+1+(all.drop (i+1)).idxOf u.x:=fun q=>absurd q hk
  clear hE hm hk
  by_cases hlt:i<all.length
  ·obtain⟨r,o,cells,gg,tt,part,rfl,hr,aG,a8,rfl⟩:=bJ i all[i] (by simp)
   have a1:=bI hlt
   have e1:=cw.objs r hr
   repeat'(first|(apply ao<;>intro)|refine az 5 [Fx,Fx,Fx,Fx,Fx,Fx,Fx,Fx,Fx,Fx,Fx,Fx] ?_|((with_reducible show Qs _ _ _ _ _);refine ai _ _ _ _ ?_)|simp(disch:=omega)only[↓aa,ab,simprocAttr,sa, *])
   all_goals first|(refine hQ _ _ _ ?_ ⟨i+1,rfl,?_,?_,?_,?_,⟨by omega,JB⟩⟩<;>exact ay)|omega|trace_state
  ·repeat'(first|(apply ao<;>intro)|refine az 5 [Fx,Fx,Fx,Fx,Fx,Fx,Fx,Fx,Fx,Fx,Fx,Fx] ?_|((with_reducible show Qs _ _ _ _ _);refine ai _ _ _ _ ?_)|simp(disch:=omega)only[↓aa,ab,simprocAttr,sa, *])
   all_goals first|exact xW|omega|trace_state
def mG:List Int→Nat→List (Value×Value)
 |[],_=>[]
 |a::l,n=>(.int .i64 a,.int .i64 n)::mG l (n+1)
theorem Q9(k:Int):∀ (l:List Int) (n:Nat),mG l n++[(.int .i64 k,.int .i64 (n+l.length:Nat))]=mG (l++[k]) n
 |[],n=>rfl
 |a::l,n=>by
  show(_::(mG l (n+1)++_))=_::mG (l++[k]) (n+1)
  rw[←Q9 k l (n+1),wY,show n+1+l.length=n+(l.length+1) by omega]
theorem Ra{k:Int}:∀ {l:List Int} (n i:Nat),k∈l→findV (.int .i64 k) (mG l n) i=some (some (i+l.idxOf k,.int .i64 (n+l.idxOf k:Nat)))
 |a::l,n,i,h=>by
  by_cases e:k=a
  ·subst e
   simp[mG,findV,keyEq,sameKind,gI]
  ·have h':k∈l:=(wad.1 h).resolve_left e
   have:keyEq (.int .i64 k) (.int .i64 a)=some false:=by simp[keyEq,sameKind,gI,e]
   simp only[mG,findV,this,wo]
   rw[wb3,beq_eq_false_iff_ne.2 (fun q=>e q.symm),wS]
   refine(Ra (n+1) (i+1) h').trans ?_
   congr 3
   ·omega
   ·congr 2;omega
theorem Rb{k:Int}:∀ {l:List Int} (n i:Nat),k∉l→findV (.int .i64 k) (mG l n) i=some none
 |[],_,_,_=>rfl
 |a::l,n,i,h=>by
  have e:k≠a:=fun e=>h (e▸wW ..)
  have:keyEq (.int .i64 k) (.int .i64 a)=some false:=by simp[keyEq,sameKind,gI,e]
  simp only[mG,findV,this,wo]
  exact Rb (n+1) (i+1) fun h'=>h (wM _ h')
theorem zhr(H:Heap)(r:Nat)(k:Int)(v:Value):mapUpdateV E H 112 (.map (some r)) (.int .i64 k) v=ss H (H.objs.get r) r (.int .i64 k) v:=kq
theorem zhs(H:Heap)(r:Nat)(k:Int):lookupV E H 112 (.map (some r)) (.int .i64 k) false=su (H.objs.get r) (.int .i64 k) (.int .i64 0):=kq
theorem zht{l:List Int}{k:Int}(h:k∈l):su (some (.map (mG l 0))) (.int .i64 k) (.int .i64 0)=some (.int .i64 (l.idxOf k:Nat)):=by
 rw[su]
 simp only[wo,Ra 0 0 h]
 rw[wau]
theorem zhu{H:Heap}{r:Nat}{l:List Int}(hl:H.lo≤r){k:Int}(h:k∉l):ss H (some (.map (mG l 0))) r (.int .i64 k) (.int .i64 (l.length:Nat))=some (H.setObj r (.map (mG (l++[k]) 0))):=by
 rw[ss]
 have hb:(!Nat.ble H.lo r)=false:=by simpa using hl
 have e:=Q9 k l 0
 rw[wau]at e
 simp only[wo,Rb 0 0 h,Heap.po,hb,wS,Tr.force_eq,Heap.setObj,e]
theorem zhv:E.fn.get 61=some Tryz.f61:=kq
theorem Rd(H:Heap)(aj:H.lo≤H.next){bx m:Nat}{all:List Int}(hB:H.objs.get bx=some (.row [.map (some m)] none true))(hM:H.objs.get m=some (.map (mG all 0)))(l1:bx<H.next)(l2:m<H.next)(w:Nat)(hw:w<2^64)(hl:uO all w):af E (.func (.func 61) #[] #[ptr bx 0]) [.int .u64 w] H fun r H'=>r=cX (ey all w)∧aq H H':=by
 obtain⟨u,hu,hm⟩:=hl
 have c1:=fun(X:Heap) (hx:X.lo≤X.next)=>yx X hx w hw
 have ht:ey all w=if u.kind=2 then⟨2,(all.idxOf u.x:Nat)⟩else u:=by unfold ey;rw[hu];rfl
 rw[hu]at c1
 simp only[wbr,wb1,wah]at c1
 rw[ht]
 clear hu ht
 unfold cX at c1⊢
 refine AF kq zhv rfl rfl ?_
 simp only[Tryz.f61]
 by_cases hk:u.kind=2
 ·have Nz:=zht (hm hk)
  have fC:decide (u.kind=2)=true:=wz hk
  rw[wF hk]
  clear hm
  have yp:u.kind=2:=hk
  clear hk
  repeat'(first|((with_reducible show af _ _ _ _ _);refine ak H (c1 _ ah) ?_;intro H2 k2 l2 n2 g2 q2;try simp(disch:=omega)only[sm,sl]at l2 n2 g2 q2)|simp(disch:=omega)only[↓aa,ab,simprocAttr,sa,wL,wat,zhs,KZ, *])
  exact aF
 ·have fC:decide (u.kind=2)=false:=wx hk
  rw[wI hk]
  clear hm hk
  repeat'(first|((with_reducible show af _ _ _ _ _);refine ak H (c1 _ ah) ?_;intro H2 k2 l2 n2 g2 q2;try simp(disch:=omega)only[sm,sl]at l2 n2 g2 q2)|simp(disch:=omega)only[↓aa,ab,simprocAttr,sa,wL,wat, *])
  all_goals exact cf
structure gT(H H':Heap):Prop where
 ag:H.next≤H'.next
 bH:∀ x cells g t,x<H.next→H.objs.get x=some (.row cells (some g) t)→∃ t',H'.objs.get x=some (.row cells (some g) t')
 rows:∀ x cells g t,x<H.next→H.objs.get x=some (.row cells g t)→∃ cells' g' t',H'.objs.get x=some (.row cells' g' t')
theorem Ext.g{H H':Heap}(h:Ext H H'):gT H H':=⟨h.ag,fun x c g t hx ho=>h.rows x c _ t hx ho,fun x c g t hx ho=>let⟨t',h1⟩:=h.rows x c _ t hx ho;⟨c,g,t',h1⟩⟩
theorem gT.trans{H H' kv:Heap}(h:gT H H')(h':gT H' kv):gT H kv:=
 ⟨wK h.ag h'.ag,fun x c g t hx ho=>let⟨t',h1⟩:=h.bH x c g t hx ho;h'.bH x c g t' (wq hx h.ag) h1,
   fun x c g t hx ho=>let⟨c',g',t',h1⟩:=h.rows x c g t hx ho;h'.rows x c' g' t' (wq hx h.ag) h1⟩
theorem qf{H:Heap}{p:Nat}{c c':List Value}{t:Bool}(hp:H.objs.get p=some (.row c none t)):gT H (H.setRow p c'):=by
 refine⟨wy _,fun x d g t' hx ho=>?_,fun x d g t' hx ho=>?_⟩
 ·have:x≠p:=fun e=>by rw[e,hp]at ho;simp at ho
  exact⟨t',by rw[aA,au this];exact ho⟩
 ·by_cases e:x=p
  ·exact⟨c',none,true,by rw[aA,cB e];rfl⟩
  ·exact⟨d,g,t',by rw[aA,au e];exact ho⟩
theorem Ko.il{H H':Heap}(h:Ko H H'):gT H H':=⟨h.ag,fun x c g t hx ho=>⟨t,h.keeps hx ho⟩,fun x c g t hx ho=>⟨c,g,t,h.keeps hx ho⟩⟩
def BL{α:Type}(R:Heap→List Value→α→Prop):Prop:=∀ H H' part x,gT H H'→R H part x→R H' part x
theorem oe.g{H H':Heap}{v:Value}(h:oe H v)(hs:gT H H'):oe H' v:=by
 intro a l c e
 rcases h a l c e with h|⟨r,cells,g,t,h1,h2,h3⟩
 ·exact .inl h
 ·obtain⟨c',g',t',h4⟩:=hs.rows r cells g t h2 h3
  exact .inr ⟨r,c',g',t',h1,wq h2 hs.ag,h4⟩
def im{α:Type}(R:Heap→List Value→α→Prop)(z:Nat)(H:Heap)(v:Value)(l:List α):Prop:=
 (∃a cap,v= .slice a l.length cap∧(l.length≤cap∧l.length≤9223372036854775807)∧∀ i x,l[i]? =some x→∃ r o cells g t part,a=some ⟨r,o,none⟩∧r<H.next∧H.objs.get r=some (.row cells (some g) t)∧cut cells (o+i*z) z=some part∧R H part x)∧oe H v
section
variable{α:Type}{R:Heap→List Value→α→Prop}{z:Nat}{H H':Heap}{v:Value}{l:List α}
theorem im.qV(h:im R z H v l):aZ R z H v l:=by
 obtain⟨⟨a,cap,h1,h2,h3⟩,hr⟩:=h
 refine⟨⟨a,cap,h1,h2,fun i x hi=>?_⟩,hr⟩
 obtain⟨r,o,cells,g,t,part,h4⟩:=h3 i x hi
 exact⟨r,o,cells,_,t,part,h4⟩
theorem im.ext(hR:BL R)(h:im R z H v l)(hs:gT H H'):im R z H' v l:=by
 obtain⟨⟨a,cap,h1,h2,h3⟩,hr⟩:=h
 refine⟨⟨a,cap,h1,h2,fun i x hi=>?_⟩,hr.g hs⟩
 obtain⟨r,o,cells,g,t,part,h4,h5,h6,h7,h8⟩:=h3 i x hi
 obtain⟨t',h9⟩:=hs.bH r cells g t h5 h6
 exact⟨r,o,cells,g,t',part,h4,wq h5 hs.ag,h9,h7,hR _ _ _ _ hs h8⟩
theorem im.cell(h:im R z H v l):isCell v=true:=by
 obtain⟨⟨a,cap,h1,_⟩,hr⟩:=h
 rw[h1]
 cases a with
 |none=>rfl
 |some a=>
  rcases hr _ _ _ h1 with h|⟨r,_,_,_,h,_⟩
  ·cases h
  ·rw[h];rfl
theorem im.form(h:im R z H v l):∃ a c,v= .slice a l.length c:=let⟨⟨a,c,e,_⟩,_⟩:=h;⟨a,c,e⟩
theorem dD.g{cs:List Value}(hR:BL R)(h:dD R z H cs l)(hs:gT H H'):dD R z H' cs l:=
 ⟨h.1,fun i x hi=>let⟨part,h1,h2⟩:=h.2 i x hi;⟨part,h1,hR _ _ _ _ hs h2⟩⟩
theorem b8.oS{b n:Nat}{cs:List Value}{f:Option (Nat×Nat)}(h:b8 b z H v n cs f)(hl:l.length=n)(cg:n≤1000000000)(hR:dD R z H cs l):im R z H v l:=by
 subst hl
 obtain⟨h0,h⟩:=h
 match f,h with
 |none,⟨h1,h2⟩=>
  cases l with
  |nil=>subst h1;exact⟨⟨none,0,rfl,⟨wy _,wJ _⟩,fun i x h=>by simp at h⟩,fun a m c e=>by simp only[waq]at e;exact .inl e.1.symm⟩
  |cons x l=>simp at h2
 |some (r,g),⟨h1,h2,h3,h4,h5,aS,h6,h7⟩=>
  subst h1
  refine⟨⟨_,_,rfl,⟨wy _,by omega⟩,fun i x hi=>?_⟩,fun a m c e=>?_⟩
  ·obtain⟨part,q1,q2⟩:=hR.2 i x hi
   exact⟨r,0,cs,_,_,part,rfl,h3,h6,by rw[wau];exact q1,q2⟩
  ·simp only[waq]at e
   obtain⟨rfl,_,_⟩:=e
   exact .inr ⟨r,cs,_,_,rfl,h3,h6⟩
theorem OS.oS{b n:Nat}{cs:List Value}{go:Option Nat}(h:OS b z H v n cs go)(hl:l.length=n)(hR:dD R z H cs l):im R z H v l:=by
 subst hl
 cases go with
 |none=>
  obtain⟨rfl,h2,h3⟩:=h
  cases l with
  |nil=>exact⟨⟨none,0,rfl,⟨wy _,wJ _⟩,fun i x h=>by simp at h⟩,fun a m c e=>by simp only[waq]at e;exact .inl e.1.symm⟩
  |cons x l=>simp at h2
 |some g=>
  obtain⟨r,cap,full,aS,rfl,h2,h3,h4,h5,h6,h7,h8,h9,aY,aV,bB⟩:=h
  refine⟨⟨_,_,rfl,⟨h2.1,by omega⟩,fun i x hi=>?_⟩,fun a m c e=>?_⟩
  ·obtain⟨part,q1,q2⟩:=hR.2 i x hi
   have tu:=(wD.1 hi).1
   have Ew:=waQ z (show i+1≤l.length from tu)
   rw[waW]at Ew
   have zcP:=waQ z h2.1
   refine⟨r,0,full,_,_,part,rfl,h8,h5,?_,q2⟩
   rw[wau,←q1,←h4,GW (by omega) (by omega)]
  ·simp only[waq]at e
   obtain⟨rfl,_,_⟩:=e
   exact .inr ⟨r,full,_,_,rfl,h8,h5⟩
theorem OE.oS{b n:Nat}{cs:List Value}(h:OE b z H v n cs)(hl:l.length=n)(hR:dD R z H cs l):im R z H v l:=by
 rcases h with⟨go,h⟩|⟨rfl,rfl,q,rfl,h4,h5,h6⟩
 ·exact h.oS hl hR
 ·have:l=[]:=wac hl
  subst this
  refine⟨⟨_,0,rfl,⟨wy _,wJ _⟩,fun i x h=>by simp at h⟩,fun a m c e=>?_⟩
  simp only[waq]at e
  obtain⟨rfl,_,_⟩:=e
  exact .inr ⟨q,[],_,_,rfl,h5,h6⟩
theorem b8.ot{b n p:Nat}{cs c c':List Value}{t:Bool}{f:Option (Nat×Nat)}(h:b8 b z H v n cs f)(hp:H.objs.get p=some (.row c none t)):b8 b z (H.setRow p c') v n cs f:=by
 refine h.cz (wy _) fun r g e=>⟨?_,rfl⟩
 subst e
 have:r≠p:=fun e=>by
  obtain⟨_,h1,h2,h3,h4,h5,aS,h6,h7⟩:=h
  rw[e,hp]at h6;simp at h6
 rw[aA,au this];rfl
theorem b8.ko{b n:Nat}{cs:List Value}{f:Option (Nat×Nat)}(h:b8 b z H v n cs f)(k:Ko H H'):b8 b z H' v n cs f:=
 h.cz k.ag fun r g e=>by subst e;exact⟨k.objs r h.below.1,k.grps g h.below.2⟩
theorem b8.cell{b n:Nat}{cs:List Value}{f:Option (Nat×Nat)}(h:b8 b z H v n cs f):isCell v=true:=by
 obtain⟨h0,h⟩:=h
 match f,h with
 |none,⟨h1,h2⟩=>rw[h1];rfl
 |some (r,g),⟨h1,h2⟩=>rw[h1];rfl
theorem pA.nil{f:Option (Nat×Nat)}:pA f none:=by
 unfold pA;split<;>first|trivial|(rename_i h;cases h)|(rename_i h h2;cases h2)
end
theorem Grown.il{b:Nat}{H H':Heap}(h:Grown b H H'):gT H H':=h.ext.g
theorem Down.ko{b:Nat}{H H' X:Heap}(h:Down b H H')(k:Ko X H)(hb:X.next≤b):Ko X H':=
 ⟨wK k.ag h.ag,fun x hx=>(h.below x (by omega)).1.trans (k.objs x hx),fun x hx=>(h.below x (by omega)).2.trans (k.grps x hx)⟩
def kg:Heap→List Value→Gn→Prop:=fun H part n=>∃ f r,part=[.int .i64 n.kind,f,r]∧im dP 2 H f n.fields∧im RW 1 H r n.bO
theorem dP.te:BL dP:=fun _ _ _ _ _ h=>h
theorem RW.te:BL RW:=fun _ _ _ _ _ h=>h
theorem kg.mono:BL kg:=fun _ _ _ _ hs ⟨f,r,h1,h2,h3⟩=>⟨f,r,h1,h2.ext dP.te hs,h3.ext RW.te hs⟩
theorem kg.nd{H:Heap}{part:List Value}{n:Gn}(h:kg H part n):BC H part n:=let⟨f,r,h1,h2,h3⟩:=h;⟨f,r,h1,h2.qV,h3.qV⟩
theorem Ko.add{H0 H:Heap}(h:Ko H0 H)(o:AObj):Ko H0 (H.add o):=h.call (Aa H o)
theorem Ko.setObj{H0 H:Heap}(h:Ko H0 H){l:Nat}(hl:H0.next≤l)(o:AObj):Ko H0 (H.setObj l o):=
 ⟨by rw[oJ];exact h.ag,fun x hx=>by rw[iw,au (by omega)];exact h.objs x hx,fun x hx=>by rw[vx];exact h.grps x hx⟩
theorem bL{P:Prop}(h:P:=by with_reducible repeat' first|assumption|apply Ko.refl|apply Ko.newRow|apply Ko.cd|apply Ko.setRow|apply Ko.add|apply Ko.setObj|omega|(simp only[aB,aJ,aE,ja,oJ];omega)|(refine Ko.trans ?_ (by assumption))):P:=h
theorem zhL(a:Option Nat):cj (.map a)=[.map a]:=wE rfl rfl
theorem zhM(a:Option Nat):isCell (.map a)=true:=wE rfl rfl
set_option linter.defProp false
def sI:=And.intro (And.intro (And.intro zhL zhM) (And.intro px @ja)) (And.intro (And.intro @vw @iw) (And.intro @oJ @x4))
theorem zhN{cells cs:List Value}{n k m:Nat}(h:cut cells 0 n=some cs)(hk:k+m≤n):cut cells k m=some ((cs.drop k).take m):=by
 rw[dB]at h
 split at h
 ·rename_i hl
  simp only[waZ,wi]at h
  rw[dB,wF (by omega),←h,wcO,wcN,waS (by omega)]
 ·cases h
theorem Rz{H:Heap}{v:Value}{ws:List Nat}(hv:aZ RW 1 H v ws)(h0:ws≠[]):∃ r c cells g t,v= .slice (some ⟨r,0,none⟩) ws.length c∧r<H.next∧H.objs.get r=some (.row cells g t)∧cut cells 0 ws.length=some (ws.map wV):=by
 obtain⟨hs,hr⟩:=hv
 obtain⟨a,c,cs,rfl,oO,sf⟩:=hs.Av hr
 have ib:=OB sf
 subst ib
 have a9:0<ws.length:=wcS.2 h0
 obtain⟨a',c',e,_,h⟩:=hs
 simp only[waq]at e
 obtain⟨rfl,_,rfl⟩:=e
 obtain⟨r,o,cells,g,t,_,rfl,dW,aG,_⟩:=h 0 ws[0] (wj a9)
 rcases hr _ _ _ rfl with q|⟨r',_,_,_,q,_⟩
 ·cases q
 ·cases q
  refine⟨r,_,cells,g,t,rfl,dW,aG,?_⟩
  rw[Aw,aG,wo,Ax,waY]at oO
  exact oO
section
variable{E:Env}{sz:Nat}{T:Tr Value}{H:Heap}{all:List Oper}
def ET(u:Value):Option Value→Bool
 |some u'=>sameV u u'
 |none=>false
def J6(E:Env)(H':Heap)(ty:TypeId):Option Value→Option Value→Bool
 |some a,some u=>ET u (loadV E H' ty a)
 |_,_=>false
theorem zhO:keepOk E T H []=true:=wE rfl rfl
theorem zhP(ty:TypeId)(t d:Tmp)(l:List (TypeId×Tmp×Tmp)):keepOk E T H ((ty,t,d)::l)=(J6 E H ty (T.get t) (T.get d)&&keepOk E T H l):=by
 conv=>lhs;unfold keepOk
 congr 1
 unfold J6
 cases T.get t with
 |none=>rfl
 |some a=>cases T.get d with
  |none=>rfl
  |some u=>unfold ET;cases h:loadV E H ty a<;>simp[h]
theorem zhQ(ty:TypeId)(a u:Value):J6 E H ty (some a) (some u)=ET u (loadV E H ty a):=wE rfl rfl
theorem zhR(u u':Value):ET u (some u')=sameV u u':=wE rfl rfl
end
theorem zhS(l c:Nat):sameV (.slice none l c) (.slice none l c)=true:=by
 show(Nat.beq l l&&Nat.beq c c)=true
 rw[wbc,wbc];rfl
theorem zhT(r o l c:Nat):sameV (.slice (some ⟨r,o,none⟩) l c) (.slice (some ⟨r,o,none⟩) l c)=true:=by
 show(Nat.beq r r&&Nat.beq o o&&Nat.beq l l&&Nat.beq c c)=true
 rw[wbc,wbc,wbc,wbc];rfl
theorem b8.sv{b z n:Nat}{H:Heap}{v:Value}{cs:List Value}{f:Option (Nat×Nat)}(h:b8 b z H v n cs f):sameV v v=true:=by
 obtain⟨h0,h⟩:=h
 match f,h with
 |none,⟨h1,h2⟩=>rw[h1];exact zhS _ _
 |some (r,g),⟨h1,h2⟩=>rw[h1];exact zhT _ _ _ _
def sK:=And.intro (And.intro @zhO @zhP) (And.intro @zhQ @zhR)
theorem RA{n:Nat}(h:n≤1000000):ed 3 56 n=true:=by
 simp[ed,lM,cC];omega
theorem aZ.imp{α:Type}{R S:Heap→List Value→α→Prop}{z:Nat}{H:Heap}{v:Value}{l:List α}(h:aZ R z H v l)(hs:∀ part x,R H part x→S H part x):aZ S z H v l:=by
 obtain⟨⟨a,c,h1,h2,h3⟩,hr⟩:=h
 refine⟨⟨a,c,h1,h2,fun i x hi=>?_⟩,hr⟩
 obtain⟨r,o,cells,g,t,part,h4,h5,h6,h7,h8⟩:=h3 i x hi
 exact⟨r,o,cells,g,t,part,h4,h5,h6,h7,hs _ _ h8⟩
theorem RC{H:Heap}{v u w:Value}{l:List Int}{k:IntKind}{p:Nat}{c:List Value}{t:Bool}(h:aZ (dd k) 1 H v l)(hp:H.objs.get p=some (.row [u,w] none t))(hu:∀ x,u≠ .int k x)(hw:∀ x,w≠ .int k x):aZ (dd k) 1 (H.setRow p c) v l:=by
 obtain⟨⟨a,cap,h1,h2,h3⟩,hr⟩:=h
 refine⟨⟨a,cap,h1,h2,fun i x hi=>?_⟩,hr.g (qf hp)⟩
 obtain⟨r,o,cells,g,t,part,h4,h5,h6,h7,h8⟩:=h3 i x hi
 have a9:r≠p:=fun e=>by
  subst e
  rw[hp]at h6
  simp only[wi,AObj.row.injEq]at h6
  obtain⟨rfl,_,_⟩:=h6
  rw[h8,waY]at h7
  have h9:=DZ h7
  rcases hj:o+i with _|_|j<;>rw[hj]at h9<;>simp at h9
  ·exact hu _ h9
  ·exact hw _ h9
 exact⟨r,o,cells,g,t,part,h4,h5,by rw[aA,au a9];exact h6,h7,h8⟩
def Gz(z:Nat)(H:Heap)(v:Value):Prop:=∀ a n c,v= .slice (some a) n c→∀ cells g t,H.objs.get a.block=some (.row cells g t)→g=none∨∃ q,g=some (q,z)
theorem Gz.ko{z:Nat}{H H':Heap}{v:Value}(h:Gz z H v)(hr:oe H v)(k:Ko H H'):Gz z H' v:=fun a n c e cells g t ho=>by
 rcases hr _ _ _ e with q|⟨r,cells',g',t',q,h1,h2⟩
 ·cases q
 ·cases q
  have:=(k.objs r h1).symm.trans ho
  exact h _ n c e cells g t (by rw[←k.objs _ h1];exact ho)
theorem RD{cells:List Value}{wg:Option (Nat×Nat)}{t:Bool}{r l k c n:Nat}{ws:List Nat}(hg:wg=none∨∃ q,wg=some (q,1))(hc:cut cells 0 n=some (ws.map wV))(hk:l+k≤n)(Ce:n≤c):∃ off,oZ 1 (some (.row cells wg t)) r 0 (l,l+k,c) false=some (.slice (some ⟨r,off,none⟩) k (c-l))∧cut cells off k=some (((ws.drop l).take k).map wV):=by
 have h1:=zhN hc hk
 rw[←List.map_drop,←List.map_take]at h1
 rcases hg with rfl|⟨q,rfl⟩
 ·by_cases e:c=l
  ·have lL:k=0:=by omega
   subst lL
   refine⟨0,by rw[zC,wF e,waX,wbS],by rw[dB,wF (by omega)];simp⟩
  ·refine⟨l,by rw[zC,wI e,waY,wau,Nat.add_sub_cancel_left],?_⟩
   exact h1
 ·refine⟨l,by rw[zD,waY,wau,Nat.add_sub_cancel_left],?_⟩
  exact h1
theorem J7{cells:List Value}{off k j:Nat}{l:List Nat}(h:cut cells off k=some (l.map wV))(hj:j<l.length):cells[off+j]? =some (wV l[j]):=by
 obtain⟨h1,h2,h3⟩:=yl h
 rw[wO]at h1
 have e:=congrArg (fun t:List Value=>t[j]?) h3
 simp only[war,wab,wae,wF (show j<k by omega),wj hj,waE]at e
 exact e.symm
theorem zhU(H:Heap)(aj:H.lo≤H.next){r o c:Nat}{cells:List Value}{g:Option (Nat×Nat)}{t:Bool}(hr:r<H.next)(aG:H.objs.get r=some (.row cells g t))(ws:List Nat)(hc:cut cells o ws.length=some (ws.map wV))(hl:ws.length≤100000):af E (aC 64) [.slice (some ⟨r,o,none⟩) ws.length c] H fun r H'=>OE H.next 1 H' r ws.length (ws.map wV)∧aq H H':=by
 have sN:aq H (H.newRow []):=fx _
 have oO:cellsOf (H.newRow []) ws.length (.slice (some ⟨r,o,none⟩) ws.length c)=some (ws.map wV):=by
  rw[Aw,sN.keeps hr aG,wo,Ax];exact hc
 have qP:(H.newRow []).objs.get H.next=some (.row [] none true):=by simp(disch:=omega)only[aA,aM,aB,aJ,aH,aI,aN,aO,aR,aP,aL,aE,aK,au,sl]
 refine aQ Tryz.f64 ?_
 simp only[Tryz.f64]
 by_cases a9:ws.length=0
 ·have e0:ws=[]:=wac a9
  subst e0
  simp only[waA]at oO
  have di:=HS (z:=1) (b:=8) (H:=H.newRow []) ⟨H.next,0,none⟩ 0 rfl (([]:List Nat).map wV)
  clear aG hc
  simp(disch:=omega)only[↓aa,ab,simprocAttr,sa,Ht,cC,eF,waA, *]
  exact .inr ⟨rfl,rfl,H.next,rfl,wy _,by simp(disch:=omega)only[aA,aM,aB,aJ,aH,aI,aN,aO,aR,aP,aL,aE,aK,au,sl];omega,qP⟩
 ·have di:=yz (z:=1) (b:=8) (k:=ws.length) (new:=ws.map wV) qP a9 (by simp[ed,lM,cC];omega)
  clear aG hc
  simp(disch:=omega)only[↓aa,ab,simprocAttr,sa,Ht,cC,eF, *]
  have g:=vM (b:=H.next) (H:=H.newRow []) (by simp(disch:=omega)only[aA,aM,aB,aJ,aH,aI,aN,aO,aR,aP,aL,aE,aK,au,sl];omega) 1 (ws.map wV)
  have hO:=OS.dx (b:=H.next) (z:=1) (n:=ws.length) (H:=H.newRow []) (cs:=ws.map wV) (by simp(disch:=omega)only[aA,aM,aB,aJ,aH,aI,aN,aO,aR,aP,aL,aE,aK,au,sl];omega) (by omega) (by rw[wO,waY])
  simp(disch:=omega)only[sm,sl,sI]at hO
  exact⟨.inl ⟨_,hO⟩,g.same sN (wy _)⟩
def uD(gn gr:Value)(aX ax:Int)(met small mj J4:Value)(top:Int)(next:Value)(first:Int)(J5:Value):List Value:=[gn,gr,.int .i64 aX,.int .i64 ax,met,small,mj,J4,.int .i64 top,.slice none 0 0,next,.int .i64 first,J5]
theorem zbA(H:Heap)(aj:H.lo≤H.next){p:Nat}{gn gr met small mj J4 next J5:Value}{aX ax top first:Int}(hp:p<H.next)(aG:H.objs.get p=some (.row (uD gn gr aX ax met small mj J4 top next first J5) none true)):
  af E (aC 292) [ptr p 0] H fun r H'=>r= .tuple #[.int .i64 0,.bool false]∧aq H H':=by
 unfold uD at aG
 refine aQ Tryz.f292 ?_
 simp only[Tryz.f292]
 simp(disch:=omega)only[↓aa,ab,simprocAttr,sa, *]
 all_goals exact cf
structure Wx where
 v:Value
 n:Nat
 c:List Value
 bx:List (Nat×List Value)
def OW0(b z p q:Nat)(H:Heap)(v:Value)(n:Nat)(cs:List Value):Option Nat→Prop
 |none=>(n=0∧cs=[]∧∃ a c,v= .slice a 0 c)∨∃ r,v= .slice (some ⟨r,0,none⟩) 1 1∧n=1∧cs.length=z∧H.objs.get r=some (.row cs none true)∧b≤r∧r<H.next∧r≠p∧r≠q
 |some g=>OS b z H v n cs (some g)
def OW(b z p q:Nat)(H:Heap)(W:Wx)(go:Option Nat):Prop:=
 OW0 b z p q H W.v W.n W.c go∧∀ e∈W.bx,e.1<H.next∧e.1≠p∧e.1≠q∧H.objs.get e.1=some (.row e.2 none true)
section
variable{b z p q:Nat}{H H':Heap}{W:Wx}{go:Option Nat}
theorem OW.cz(h:OW b z p q H W go)(hn:H.next≤H'.next)(h0:∀ x c,x<H.next→x≠p→x≠q→H.objs.get x=some (.row c none true)→H'.objs.get x=some (.row c none true))(ho:∀ x c z t g,go=some g→b≤x→x<H.next→H.objs.get x=some (.row c (some (g,z)) t)→H'.objs.get x=some (.row c (some (g,z)) t))(hg:∀ g,go=some g→H'.grps.get g=H.grps.get g):OW b z p q H' W go:=by
 refine⟨?_,fun e he=>?_⟩
 ·have h:=h.1
  cases go with
  |none=>
   rcases h with h|⟨r,h1,h2,h3,h4,h5,h6,h7,h8⟩
   ·exact .inl h
   ·exact .inr ⟨r,h1,h2,h3,h0 r _ h6 h7 h8 h4,h5,wq h6 hn,h7,h8⟩
  |some g=>exact OS.cz (go:=some g) h hn ho hg
 ·obtain⟨h1,h2,h3,h4⟩:=h.2 e he
  exact⟨wq h1 hn,h2,h3,h0 _ _ h1 h2 h3 h4⟩
theorem OW.lt(h:OW b z p q H W go):∀ g,go=some g→b≤g∧g<H.next:=by
 rintro g rfl
 exact OS.lt (go:=some g) h.1 g rfl
theorem OW.ko(h:OW b z p q H W go)(s:Ko H H'):OW b z p q H' W go:=
 h.cz s.ag (fun x c hx _ _ ho=>s.keeps hx ho) (fun x c z t g _ _ hx ho=>s.keeps hx ho) fun g e=>s.grps g (h.lt g e).2
theorem OW.cU{g:Nat}(h:OW b z p q H W go)(e:eA b g H H')(hg:go≠some g):OW b z p q H' W go:=
 h.cz e.ag (fun x c hx _ _ ho=>e.objs x _ hx ho (by simp)) (fun x c z t g' e' _ hx ho=>e.objs x _ hx ho fun c' z' t' q=>by
  simp only[AObj.row.injEq,wi,wk]at q
  exact hg (e'.trans (congrArg some q.2.1.1))) fun g' e'=>e.grps g' (h.lt g' e').2 fun q=>hg (e'.trans (congrArg some q))
theorem OW.setRow{x:Nat}{c c':List Value}{t:Bool}(h:OW b z p q H W go)(hp:H.objs.get x=some (.row c none t))(hx:x=p∨x=q):OW b z p q (H.setRow x c') W go:=
 h.cz (wy _) (fun y c y1 y2 y3 ho=>by
  have:y≠x:=fun e=>by rcases hx with rfl|rfl<;>omega
  rw[aA,au this];exact ho) (fun y c z t' g _ _ _ ho=>by
  have:y≠x:=fun e=>by rw[e,hp]at ho;simp at ho
  rw[aA,au this];exact ho) fun g e=>rfl
theorem OW.setObj(h:OW b z p q H W go){x:Nat}{es:List (Value×Value)}(hq:H.objs.get x=some (.map es))(ob:AObj):OW b z p q (H.setObj x ob) W go:=
 h.cz (by rw[oJ];exact wy _) (fun y c _ _ _ ho=>by
  have:y≠x:=fun e=>by rw[e,hq]at ho;simp at ho
  rw[iw,au this];exact ho) (fun y c z t' g _ _ _ ho=>by
  have:y≠x:=fun e=>by rw[e,hq]at ho;simp at ho
  rw[iw,au this];exact ho) fun g e=>by rw[vx]
end
theorem yG{b z n:Nat}{H:Heap}{v:Value}{cs:List Value}{g:Nat}(h:OS b z H v n cs (some g)):∃ r k,v= .slice (some ⟨r,0,none⟩) n k:=let⟨r,k,_,_,q,_⟩:=h;⟨r,k,q⟩
section
variable{b z n p q:Nat}{H H':Heap}{v:Value}{cs:List Value}{go:Option Nat}{W:Wx}
def W0:Wx:=⟨.slice none 0 0,0,[],[]⟩
theorem OW.nil(b z p q:Nat)(H:Heap):OW b z p q H W0 none:=⟨.inl ⟨rfl,rfl,none,0,rfl⟩,fun e he=>(by cases he)⟩
theorem OW.form(h:OW b z p q H W go)(hn:W.n=n+1):∃ r k full gg,W.v= .slice (some ⟨r,0,none⟩) (n+1) k∧H.objs.get r=some (.row full gg true)∧full.take ((n+1)*z)=W.c∧(n+1)*z≤full.length∧b≤r∧n+1≤k∧r<H.next∧(gg=none∨∃ g,gg=some (g,z)):=by
 have h:=h.1
 rw[hn]at h
 cases go with
 |none=>
  rcases h with h|⟨r,h1,h2,h3,h4,h5,h6,h7,h8⟩
  ·omega
  ·have e:n=0:=by omega
   subst e
   exact⟨r,1,_,none,h1,h4,by rw[wZ (by omega)],by omega,h5,by omega,h6,.inl rfl⟩
 |some g=>
  obtain⟨r,cap,full,aS,h1,h2,h3,h4,h5,h6,h7,h8,_⟩:=h
  exact⟨r,cap,full,some (g,z),h1,h5,h4,by rw[h3];exact waQ z h2.1,h7,h2.1,h8,.inr ⟨g,rfl⟩⟩
theorem OW.any(h:OW b z p q H W go):∃ a k,W.v= .slice a W.n k:=by
 have h:=h.1
 cases go with
 |none=>
  rcases h with⟨h1,_,a,c,h2⟩|⟨r,h1,h2,_⟩
  ·exact⟨a,c,by rw[h1];exact h2⟩
  ·exact⟨_,1,by rw[h2];exact h1⟩
 |some g=>obtain⟨r,k,q⟩:=yG h;exact⟨_,k,q⟩
theorem OW.pop{r k:Nat}{bx:List (Nat×List Value)}(h:OW b z p q H ⟨.slice (some ⟨r,0,none⟩) (n+1) k,n+1,cs,bx⟩ go):OW b z p q H ⟨.slice (some ⟨r,0,none⟩) n k,n,cs.take (n*z),bx⟩ go:=by
 refine⟨?_,h.2⟩
 have h:=h.1
 dsimp only at h⊢
 cases go with
 |none=>
  rcases h with h|⟨r,h1,h2,h3,h4,h5,h6,h7,h8⟩
  ·omega
  ·have e:n=0:=by omega
   subst e
   exact .inl ⟨rfl,by simp,_,_,rfl⟩
 |some g=>exact OS.Pa (go:=some g) h (Nat.le_succ n)
theorem OW.app{bytes:Nat}{part:List Value}(h:OW b z p q H W go)(hn:1≤W.n)(hb:b≤H.next)(aj:H.lo≤b)(hp:part.length=z)(hc:part.all isCell=true)(bh:ed z bytes (W.n+1)=true):
  ∃v' H' g',appendT z bytes H W.v 1 part=some (v',H')∧OS b z H' v' (W.n+1) (W.c++part) (some g')∧eA b g' H H'∧(go=some g'∨go=none∧g'=H.next):=by
 have h:=h.1
 obtain⟨v,n,cs,bx⟩:=W
 dsimp only at h hn bh⊢
 cases go with
 |some g=>exact OS.app (go:=some g) h hb aj hp hc bh
 |none=>
  rcases h with h|⟨r,h1,h2,h3,h4,h5,h6,h7,h8⟩
  ·omega
  ·subst h2
   subst h1
   have qK:Nat.ble (1+1) 1=false:=rfl
   have a8:cut cs 0 (1*z)=some cs:=by rw[dB,wF (by omega),waZ,wZ (by omega)]
   refine⟨.slice (some ⟨H.next,0,none⟩) 2 2,H.dx z (cs++part),H.next,by simp only[appendT,qK,bh,wa7,wS,h4,a8,wo],
    ⟨H.next,2,cs++part,[],rfl,⟨wy _,by decide⟩,by rw[wN];omega,by rw[wZ (by rw[wN];omega)],by rw[iM,cB rfl];rfl,by rw[jN,cB rfl];rfl,hb,by rw[fW];omega,hb,by rw[fW];omega,fun x hx=>(by cases hx),by simp⟩,
    ⟨yv _ _,by rw[fW];omega,fun x hx=>⟨by rw[iM,au (by omega)];rfl,by rw[jN,au (by omega)];rfl⟩,fun x o hx ho _=>by rw[iM,au (by omega)];exact ho,fun y hy _=>by rw[jN,au (by omega)];rfl⟩,.inr ⟨rfl,rfl⟩⟩
end
structure PB(H0 H:Heap)(p mt mp:Nat)(c m:List Value)(es:List (Value×Value))(sv bv lv:Value)(ns nb nl:Nat)(sc bc lc:List Value)(gs gb gl:Option Nat)(W:Wx)(gw:Option Nat):Prop where
 ko:Ko H0 H
 lo:H.lo=H0.lo
 pb:H0.next≤p∧p<H.next
 mb:H0.next≤mt∧mt<H.next
 ob:H0.next≤mp∧mp<H.next
 ne:p≠mt
 row:H.objs.get p=some (.row c none true)
 met:H.objs.get mt=some (.row m none true)
 jW:H.objs.get mp=some (.map es)
 sm:OS H0.next 1 H sv ns sc gs
 bg:OS H0.next 1 H bv nb bc gb
 lk:OS H0.next 1 H lv nl lc gl
 d1:gs=none∨gs≠gb
 d2:gs=none∨gs≠gl
 d3:gb=none∨gb≠gl
 wyq:OW H0.next 2 p mt H W gw
 d4:gw=none∨gw≠gs
 d5:gw=none∨gw≠gb
 d6:gw=none∨gw≠gl
section
variable{H0 H H':Heap}{p mt mp:Nat}{c m:List Value}{es:List (Value×Value)}{sv bv lv:Value}{ns nb nl:Nat}{sc bc lc:List Value}{gs gb gl:Option Nat}{W:Wx}{gw:Option Nat}
theorem OS.setObj{b z n:Nat}{v:Value}{cs:List Value}{go:Option Nat}(h:OS b z H v n cs go){q:Nat}{es:List (Value×Value)}(hq:H.objs.get q=some (.map es))(ob:AObj):OS b z (H.setObj q ob) v n cs go:=
 h.cz (by rw[oJ];exact wy _) (fun x c z t' g _ _ hx ho=>by
  have:x≠q:=fun e=>by rw[e,hq]at ho;simp at ho
  rw[iw,au this];exact ho) fun g e=>by rw[vx]
theorem PB.np(h:PB H0 H p mt mp c m es sv bv lv ns nb nl sc bc lc gs gb gl W gw):p≠mp∧mt≠mp:=by
 refine⟨fun e=>?_,fun e=>?_⟩
 ·have:=h.row;rw[e,h.jW]at this;simp at this
 ·have:=h.met;rw[e,h.jW]at this;simp at this
theorem PB.go(h:PB H0 H p mt mp c m es sv bv lv ns nb nl sc bc lc gs gb gl W gw)(k:Ko H H')(l:H'.lo=H.lo):PB H0 H' p mt mp c m es sv bv lv ns nb nl sc bc lc gs gb gl W gw:=
 ⟨h.ko.trans k,l.trans h.lo,⟨h.pb.1,wq h.pb.2 k.ag⟩,⟨h.mb.1,wq h.mb.2 k.ag⟩,⟨h.ob.1,wq h.ob.2 k.ag⟩,h.ne,
  (k.objs _ h.pb.2).trans h.row,(k.objs _ h.mb.2).trans h.met,(k.objs _ h.ob.2).trans h.jW,h.sm.ko k,h.bg.ko k,h.lk.ko k,h.d1,h.d2,h.d3,h.wyq.ko k,h.d4,h.d5,h.d6⟩
theorem PB.Ea(h:PB H0 H p mt mp c m es sv bv lv ns nb nl sc bc lc gs gb gl W gw)(c':List Value):PB H0 (H.setRow p c') p mt mp c' m es sv bv lv ns nb nl sc bc lc gs gb gl W gw:=
 ⟨h.ko.setRow h.pb.1 _,h.lo,h.pb,h.mb,h.ob,h.ne,by rw[aA,cB rfl];rfl,by rw[aA,au (wbl h.ne)];exact h.met,by rw[aA,au (wbl h.np.1)];exact h.jW,
  h.sm.setRow h.row,h.bg.setRow h.row,h.lk.setRow h.row,h.d1,h.d2,h.d3,h.wyq.setRow h.row (.inl rfl),h.d4,h.d5,h.d6⟩
theorem PB.zbf(h:PB H0 H p mt mp c m es sv bv lv ns nb nl sc bc lc gs gb gl W gw)(m':List Value):PB H0 (H.setRow mt m') p mt mp c m' es sv bv lv ns nb nl sc bc lc gs gb gl W gw:=
 ⟨h.ko.setRow h.mb.1 _,h.lo,h.pb,h.mb,h.ob,h.ne,by rw[aA,au h.ne];exact h.row,by rw[aA,cB rfl];rfl,by rw[aA,au (wbl h.np.2)];exact h.jW,
  h.sm.setRow h.met,h.bg.setRow h.met,h.lk.setRow h.met,h.d1,h.d2,h.d3,h.wyq.setRow h.met (.inr rfl),h.d4,h.d5,h.d6⟩
theorem PB.lq(h:PB H0 H p mt mp c m es sv bv lv ns nb nl sc bc lc gs gb gl W gw)(bm:List (Value×Value)):PB H0 (H.setObj mp (.map bm)) p mt mp c m bm sv bv lv ns nb nl sc bc lc gs gb gl W gw:=
 ⟨h.ko.setObj h.ob.1 _,by rw[x4];exact h.lo,by rw[oJ];exact h.pb,by rw[oJ];exact h.mb,by rw[oJ];exact h.ob,h.ne,by rw[iw,au h.np.1];exact h.row,by rw[iw,au h.np.2];exact h.met,by rw[iw,cB rfl];rfl,
  h.sm.setObj h.jW _,h.bg.setObj h.jW _,h.lk.setObj h.jW _,h.d1,h.d2,h.d3,h.wyq.setObj h.jW _,h.d4,h.d5,h.d6⟩
theorem PB.dx(h:PB H0 H p mt mp c m es sv bv lv ns nb nl sc bc lc gs gb gl W gw)(z:Nat)(part:List Value):PB H0 (H.dx z part) p mt mp c m es sv bv lv ns nb nl sc bc lc gs gb gl W gw:=
 h.go ⟨by rw[fW];omega,fun x hx=>by rw[iM,au (by omega)];rfl,fun x hx=>by rw[jN,au (by omega)];rfl⟩ (yv _ _)
theorem sG{b z n:Nat}{v:Value}{cs:List Value}{go uC:Option Nat}{g':Nat}(h:OS b z H v n cs uC)(hd:go=none∨go≠uC)(hg:go=some g'∨go=none∧g'=H.next):uC≠some g':=fun e=>by
 rcases hg with rfl|⟨rfl,rfl⟩
 ·rcases hd with q|q
  ·cases q
  ·exact q e.symm
 ·have:=(h.lt _ e).2;omega
theorem HZ{b z p q:Nat}{W:Wx}{go uC:Option Nat}{g':Nat}(h:OW b z p q H W uC)(hd:uC=none∨uC≠go)(hg:go=some g'∨go=none∧g'=H.next):uC≠some g':=fun e=>by
 rcases hg with rfl|⟨rfl,rfl⟩
 ·rcases hd with q|q
  ·rw[q]at e;cases e
  ·exact q e
 ·have:=(h.lt _ e).2;omega
theorem eA.ju{b g':Nat}(e:eA b g' H H'){X:Heap}(k:Ko X H)(hb:X.next≤b):Ko X H':=
 ⟨wK k.ag e.ag,fun x hx=>(e.below x (by omega)).1.trans (k.objs x hx),fun x hx=>(e.below x (by omega)).2.trans (k.grps x hx)⟩
theorem eA.obj{b g':Nat}(e:eA b g' H H'){q:Nat}{ob:AObj}(hq:q<H.next)(h:H.objs.get q=some ob)(hn:∀ c z t,ob≠ .row c (some (g',z)) t):H'.objs.get q=some ob:=e.objs q ob hq h hn
section
variable{bytes:Nat}{x:Value}
theorem PB.zbg(h:PB H0 H p mt mp c m es sv bv lv ns nb nl sc bc lc gs gb gl W gw)(aj:H0.lo≤H0.next)(hc:isCell x=true)(hs:ed 1 bytes (ns+1)=true):
  ∃r k H' g',appendT 1 bytes H sv 1 [x]=some (.slice (some ⟨r,0,none⟩) (ns+1) k,H')∧H.next≤H'.next∧PB H0 H' p mt mp c m es (.slice (some ⟨r,0,none⟩) (ns+1) k) bv lv (ns+1) nb nl (sc++[x]) bc lc (some g') gb gl W gw:=by
 obtain⟨v',H',g',h1,h2,h3,h4⟩:=h.sm.app (bytes:=bytes) (part:=[x]) h.ko.ag (by rw[h.lo];exact aj) rfl (by simp[hc]) hs
 have e1:=sG h.bg h.d1 h4
 have e2:=sG h.lk h.d2 h4
 have e3:=HZ h.wyq h.d4 h4
 obtain⟨r,k,rfl⟩:=yG h2
 exact⟨r,k,H',g',h1,h3.ag,h3.ju h.ko (wy _),h3.lo.trans h.lo,⟨h.pb.1,wq h.pb.2 h3.ag⟩,⟨h.mb.1,wq h.mb.2 h3.ag⟩,⟨h.ob.1,wq h.ob.2 h3.ag⟩,h.ne,h3.obj h.pb.2 h.row (by simp),h3.obj h.mb.2 h.met (by simp),h3.obj h.ob.2 h.jW (by simp),h2,h.bg.cU h3 e1,h.lk.cU h3 e2,.inr (wbl e1),.inr (wbl e2),h.d3,h.wyq.cU h3 e3,.inr e3,h.d5,h.d6⟩
theorem PB.zbh(h:PB H0 H p mt mp c m es sv bv lv ns nb nl sc bc lc gs gb gl W gw)(aj:H0.lo≤H0.next)(hc:isCell x=true)(hs:ed 1 bytes (nb+1)=true):
  ∃r k H' g',appendT 1 bytes H bv 1 [x]=some (.slice (some ⟨r,0,none⟩) (nb+1) k,H')∧H.next≤H'.next∧PB H0 H' p mt mp c m es sv (.slice (some ⟨r,0,none⟩) (nb+1) k) lv ns (nb+1) nl sc (bc++[x]) lc gs (some g') gl W gw:=by
 obtain⟨v',H',g',h1,h2,h3,h4⟩:=h.bg.app (bytes:=bytes) (part:=[x]) h.ko.ag (by rw[h.lo];exact aj) rfl (by simp[hc]) hs
 have e1:=sG h.sm (h.d1.elim (fun q=>by cases gb<;>simp[q]) fun q=> .inr (wbl q)) h4
 have e2:=sG h.lk h.d3 h4
 have e3:=HZ h.wyq h.d5 h4
 obtain⟨r,k,rfl⟩:=yG h2
 exact⟨r,k,H',g',h1,h3.ag,h3.ju h.ko (wy _),h3.lo.trans h.lo,⟨h.pb.1,wq h.pb.2 h3.ag⟩,⟨h.mb.1,wq h.mb.2 h3.ag⟩,⟨h.ob.1,wq h.ob.2 h3.ag⟩,h.ne,h3.obj h.pb.2 h.row (by simp),h3.obj h.mb.2 h.met (by simp),h3.obj h.ob.2 h.jW (by simp),h.sm.cU h3 e1,h2,h.lk.cU h3 e2,.inr e1,h.d2,.inr (wbl e2),h.wyq.cU h3 e3,h.d4,.inr e3,h.d6⟩
theorem PB.zbi(h:PB H0 H p mt mp c m es sv bv lv ns nb nl sc bc lc gs gb gl W gw)(aj:H0.lo≤H0.next)(hc:isCell x=true)(hs:ed 1 bytes (nl+1)=true):
  ∃r k H' g',appendT 1 bytes H lv 1 [x]=some (.slice (some ⟨r,0,none⟩) (nl+1) k,H')∧H.next≤H'.next∧PB H0 H' p mt mp c m es sv bv (.slice (some ⟨r,0,none⟩) (nl+1) k) ns nb (nl+1) sc bc (lc++[x]) gs gb (some g') W gw:=by
 obtain⟨v',H',g',h1,h2,h3,h4⟩:=h.lk.app (bytes:=bytes) (part:=[x]) h.ko.ag (by rw[h.lo];exact aj) rfl (by simp[hc]) hs
 have e1:=sG h.sm (h.d2.elim (fun q=>by cases gl<;>simp[q]) fun q=> .inr (wbl q)) h4
 have e2:=sG h.bg (h.d3.elim (fun q=>by cases gl<;>simp[q]) fun q=> .inr (wbl q)) h4
 have e3:=HZ h.wyq h.d6 h4
 obtain⟨r,k,rfl⟩:=yG h2
 exact⟨r,k,H',g',h1,h3.ag,h3.ju h.ko (wy _),h3.lo.trans h.lo,⟨h.pb.1,wq h.pb.2 h3.ag⟩,⟨h.mb.1,wq h.mb.2 h3.ag⟩,⟨h.ob.1,wq h.ob.2 h3.ag⟩,h.ne,h3.obj h.pb.2 h.row (by simp),h3.obj h.mb.2 h.met (by simp),h3.obj h.ob.2 h.jW (by simp),h.sm.cU h3 e1,h.bg.cU h3 e2,h2,h.d1,.inr e1,.inr e2,h.wyq.cU h3 e3,h.d4,h.d5,.inr e3⟩
theorem PB.push(h:PB H0 H p mt mp c m es sv bv lv ns nb nl sc bc lc gs gb gl W gw)(aj:H0.lo≤H0.next)(hn:1≤W.n){part:List Value}(hp:part.length=2)(hc:part.all isCell=true)(hs:ed 2 bytes (W.n+1)=true):
  ∃r k H' g',appendT 2 bytes H W.v 1 part=some (.slice (some ⟨r,0,none⟩) (W.n+1) k,H')∧H.next≤H'.next∧PB H0 H' p mt mp c m es sv bv lv ns nb nl sc bc lc gs gb gl ⟨.slice (some ⟨r,0,none⟩) (W.n+1) k,W.n+1,W.c++part,[]⟩ (some g'):=by
 obtain⟨v',H',g',h1,h2,h3,h4⟩:=h.wyq.app (bytes:=bytes) (part:=part) hn h.ko.ag (by rw[h.lo];exact aj) hp hc hs
 have e1:=sG h.sm h.d4 h4
 have e2:=sG h.bg h.d5 h4
 have e3:=sG h.lk h.d6 h4
 obtain⟨r,k,rfl⟩:=yG h2
 exact⟨r,k,H',g',h1,h3.ag,h3.ju h.ko (wy _),h3.lo.trans h.lo,⟨h.pb.1,wq h.pb.2 h3.ag⟩,⟨h.mb.1,wq h.mb.2 h3.ag⟩,⟨h.ob.1,wq h.ob.2 h3.ag⟩,h.ne,h3.obj h.pb.2 h.row (by simp),h3.obj h.mb.2 h.met (by simp),h3.obj h.ob.2 h.jW (by simp),h.sm.cU h3 e1,h.bg.cU h3 e2,h.lk.cU h3 e3,h.d1,h.d2,h.d3,⟨h2,fun e he=>(by cases he)⟩,.inr (wbl e1),.inr (wbl e2),.inr (wbl e3)⟩
theorem PB.ways(h:PB H0 H p mt mp c m es sv bv lv ns nb nl sc bc lc gs gb gl W gw){W':Wx}(hw:OW H0.next 2 p mt H W' gw):PB H0 H p mt mp c m es sv bv lv ns nb nl sc bc lc gs gb gl W' gw:=
 {h with wyq:=hw}
theorem PB.Ba(h:PB H0 H p mt mp c m es sv bv lv ns nb nl sc bc lc gs gb gl W gw):PB H0 H p mt mp c m es sv bv lv ns nb nl sc bc lc gs gb gl W0 none:=
 {h with wyq:=OW.nil _ _ _ _ _,d4:= .inl rfl,d5:= .inl rfl,d6:= .inl rfl}
theorem PB.Ia{r k n:Nat}{wc:List Value}{bx:List (Nat×List Value)}(h:PB H0 H p mt mp c m es sv bv lv ns nb nl sc bc lc gs gb gl ⟨.slice (some ⟨r,0,none⟩) (n+1) k,n+1,wc,bx⟩ gw)(aj:H0.lo≤H0.next)(hc:isCell x=true){o:Nat}(ho:o+1≤wc.length)(hb:∀ e∈bx,e.1≠r):
  ∃H',H.write r o [x]=some H'∧H.next≤H'.next∧PB H0 H' p mt mp c m es sv bv lv ns nb nl sc bc lc gs gb gl ⟨.slice (some ⟨r,0,none⟩) (n+1) k,n+1,over [x] o wc,bx⟩ gw:=by
 have iy:=h.pb;have so:=h.mb;have nP:=h.ob
 have Ib:=h.wyq.1
 have uh:=h.wyq.2
 dsimp only at Ib uh
 cases gw with
 |some g=>
  obtain⟨r',k',H',h1,h2,h3,h4⟩:=OS.write (g:=g) (new:=[x]) (o:=o) Ib (by rw[h.lo];exact aj) (by simp[hc]) ho
  simp only[waq,wi,wcE,wcl,wbT]at h1
  obtain⟨rfl,rfl⟩:=h1
  have e1:gs≠some g:=h.d4.elim (fun q=>by cases q) wbl
  have e2:gb≠some g:=h.d5.elim (fun q=>by cases q) wbl
  have e3:gl≠some g:=h.d6.elim (fun q=>by cases q) wbl
  exact⟨H',h2,h4.ag,h4.ju h.ko (wy _),h4.lo.trans h.lo,⟨iy.1,wq iy.2 h4.ag⟩,⟨so.1,wq so.2 h4.ag⟩,⟨nP.1,wq nP.2 h4.ag⟩,h.ne,h4.obj iy.2 h.row (by simp),h4.obj so.2 h.met (by simp),h4.obj nP.2 h.jW (by simp),h.sm.cU h4 e1,h.bg.cU h4 e2,h.lk.cU h4 e3,h.d1,h.d2,h.d3,⟨h3,fun e he=>by
   obtain⟨q1,q2,q3,q4⟩:=uh e he
   exact⟨wq q1 h4.ag,q2,q3,h4.obj q1 q4 (by simp)⟩⟩,h.d4,h.d5,h.d6⟩
 |none=>
  rcases Ib with hw|⟨r',h1,h2,h3,h4,h5,h6,h7,h8⟩
  ·omega
  ·simp only[waq,wi,wcE,wcl,wbT]at h1
   obtain⟨rfl,h1,rfl⟩:=h1
   have HE:r≠mp:=fun e=>by rw[e,h.jW]at h4;simp at h4
   refine⟨H.setRow r (over [x] o wc),?_,wy _,h.ko.setRow h5 _,h.lo,iy,so,nP,h.ne,by rw[aA,au (wbl h7)];exact h.row,by rw[aA,au (wbl h8)];exact h.met,by rw[aA,au (wbl HE)];exact h.jW,
    h.sm.setRow h4,h.bg.setRow h4,h.lk.setRow h4,h.d1,h.d2,h.d3,⟨.inr ⟨r,by rw[h1],h2,?_,by rw[aA,cB rfl];rfl,h5,h6,h7,h8⟩,fun e he=>?_⟩,h.d4,h.d5,h.d6⟩
   ·have hl:=h.lo
    simp only[Heap.write,wP (show H.lo≤r by omega),wbu,List.all_nil,hc,wb8,wa7,Bool.or_self,wS,h4,wY,waA,wP (show o+(0+1)≤wc.length by omega),Tr.force_eq]
    rfl
   ·rw[oY _ _ _ (by simp;omega)]
    simp only[wN,wU,wbe,wY,waA]
    omega
   ·obtain⟨q1,q2,q3,q4⟩:=uh e he
    exact⟨q1,q2,q3,by rw[aA,au (hb e he)];exact q4⟩
end
end
def v9(es:List (Value×Value))(top:Int):Prop:=∀ e∈es,∃j:Int,e.1= .int .i64 j∧j<top
theorem Ic{k:Int}:∀ {es:List (Value×Value)} (i:Nat),v9 es k→findV (.int .i64 k) es i=some none
 |[],_,_=>rfl
 |(a,b)::es,i,h=>by
  obtain⟨j,rfl,hj⟩:=h (a,b) (wW ..)
  have:keyEq (.int .i64 k) (.int .i64 j)=some false:=by simp[keyEq,sameKind,gI];omega
  simp only[findV,this,wo]
  exact Ic (i+1) fun e he=>h e (wM _ he)
theorem zbj(H:Heap)(r:Nat)(k:Int)(v:Value):mapUpdateV E H 290 (.map (some r)) (.int .i64 k) v=ss H (H.objs.get r) r (.int .i64 k) v:=kq
theorem zbk(H:Heap)(r:Nat)(k:Int):lookupV E H 290 (.map (some r)) (.int .i64 k) false=su (H.objs.get r) (.int .i64 k) (.slice none 0 0):=kq
theorem zbl{es:List (Value×Value)}{k:Int}{z:Value}(h:v9 es k):su (some (.map es)) (.int .i64 k) z=some z:=by
 rw[su]
 simp only[wo,Ic 0 h]
theorem zbm{H:Heap}{r:Nat}{es:List (Value×Value)}(hl:H.lo≤r){k:Int}{v:Value}(h:v9 es k):ss H (some (.map es)) r (.int .i64 k) v=some (H.setObj r (.map (es++[(.int .i64 k,v)]))):=by
 rw[ss]
 have hb:(!Nat.ble H.lo r)=false:=by simpa using hl
 simp only[wo,Ic 0 h,Heap.po,hb,wS,Tr.force_eq,Heap.setObj]
theorem v9.more{es:List (Value×Value)}{k k':Int}{v:Value}(h:v9 es k)(hk:k<k'):v9 (es++[(.int .i64 k,v)]) k':=fun e he=>by
 rcases waI.1 he with he|he
 ·obtain⟨j,h1,h2⟩:=h e he
  exact⟨j,h1,by omega⟩
 ·rw[waG]at he
  subst he
  exact⟨k,rfl,hk⟩
def pJ(n:Nat)(l:List Nat):List Value:=(List.range n).map fun i=> .bool (decide (i∈l))
def Eb(k n:Nat):List Value:=(List.range n).map fun i=> .bool (decide (i<k))
def Bb(i:Nat):Value:= .int .i64 (i:Nat)
def PF(H0 H:Heap)(p mt mp:Nat)(x y:Value)(g:Gr)(l:List Nat)(k:Nat)(first:Int)(W:Wx):Prop:=
 ∃sv bv lv top gs gb gl gw bc es,PB H0 H p mt mp (uD x y 1048576 1 (.slice (some ⟨mt,0,none⟩) g.nodes.length g.nodes.length) sv (.slice none 0 0) bv top (.map (some mp)) first lv) (pJ g.nodes.length l) es sv bv lv l.length l.length l.length (l.map Bb) bc (Eb k l.length) gs gb gl W gw∧
  0≤top∧top≤l.length*8193∧v9 es top
def PM(H0 H:Heap)(p mt mp:Nat)(x y:Value)(g:Gr)(l:List Nat)(k:Nat):Prop:=∃ first:Int,0≤first∧first≤k∧PF H0 H p mt mp x y g l k first W0
theorem Ec(n:Nat)(l:List Nat):(pJ n l).length=n:=by unfold pJ;rw[wO,wb9]
theorem Ie{n i:Nat}{l:List Nat}(h:i<n):(pJ n l)[i]? =some (.bool (decide (i∈l))):=by
 unfold pJ
 rw[war,wbC h];rfl
theorem zbn(x:Value)(o:Nat)(cs:List Value)(h:o<cs.length)(j:Nat):(over [x] o cs)[j]? =if j=o then some x else cs[j]? :=by
 rw[oY _ _ _ (by simp only[wY,waA];omega)]
 simp only[wY,waA,wau]
 by_cases h1:j<o
 ·rw[wI (by omega),waP,waf (by rw[wU];omega),wab,wF h1]
 ·by_cases h2:j=o
  ·subst h2
   rw[wF rfl,waf (by rw[wN,wU];simp;omega),waB (by rw[wU];omega),wU,waS (by omega),wbS];rfl
  ·rw[wI h2,waB (by rw[wN,wU];simp;omega),wae]
   congr 1
   rw[wN,wU]
   simp
   omega
theorem zbo{n i:Nat}{l:List Nat}(h:i<n):over [.bool true] i (pJ n l)=pJ n (l++[i]):=by
 refine waR fun j=>?_
 rw[zbn _ _ _ (by rw[Ec];exact h)]
 by_cases hj:j<n
 ·rw[Ie hj,Ie hj]
  by_cases e:j=i
  ·subst e;rw[wF rfl];simp
  ·rw[wI e]
   simp[e]
 ·rw[wI (by omega),wak (by rw[Ec];omega),wak (by rw[Ec];omega)]
theorem zbp{k n:Nat}(h:k≤n):Eb k n++[.bool false]=Eb k (n+1):=by
 unfold Eb
 rw[List.range_succ,waT,List.map_singleton,wx (by omega)]
theorem yH{n:Nat}(h:n≤1000001):ed 1 8 n=true:=by
 simp[ed,lM,cC];omega
theorem Pb{n:Nat}(h:n≤1000001):ed 1 1 n=true:=by
 simp[ed,lM,cC];omega
theorem yI{b z n:Nat}{H:Heap}{v:Value}{cs:List Value}{go:Option Nat}(h:OS b z H v n cs go):∃ a k,v= .slice a n k:=by
 cases go with
 |none=>exact⟨none,0,by rw[h.1,h.2.1]⟩
 |some g=>obtain⟨r,k,q⟩:=yG h;exact⟨_,k,q⟩
theorem OS.base{b z n:Nat}{H:Heap}{v:Value}{cs:List Value}{go:Option Nat}(h:OS b z H v n cs go):baseV H (some v)=true:=by
 cases go with
 |none=>rw[h.1];rfl
 |some g=>
  obtain⟨r,cap,full,aS,h1,h2,h3,h4,h5,_⟩:=h
  subst h1
  simp only[baseV,h5]
def sL:=And.intro (And.intro @YY (And.intro @Y7 @Y8)) (And.intro YZ (And.intro @Y0 @Y6))
theorem zbq(H0 H:Heap)(aj:H0.lo≤H0.next){x y:Value}{g:Gr}(hG:fD H0 x y g)(hg:gP g){p mt mp:Nat}{l:List Nat}{k:Nat}{first:Int}{W:Wx}(hP:PF H0 H p mt mp x y g l k first W)(hk:k≤l.length)(hl:l.length≤1000000)(u:bM)(hu:mq g.nodes.length u):
  af E (aC 311) [ptr p 0,cX u] H fun r H'=>r= .bool (decide (u.kind=2∧u.x.toNat∉l))∧PF H0 H' p mt mp x y g (jg l [u]) k first W:=by
 obtain⟨sv,bv,lv,top,gs,gb,gl,gw,bc,es,hB,t1,t2,hK⟩:=hP
 have mu:=hG
 obtain⟨⟨⟨na,nc,rfl,⟨_,hn⟩,bJ⟩,Ig⟩,⟨⟨ra,rc,rfl,_,_⟩,_⟩⟩:=hG
 obtain⟨jS,sk,rfl⟩:=yI hB.sm
 obtain⟨ba,bk,rfl⟩:=yI hB.bg
 obtain⟨ka,kk,rfl⟩:=yI hB.lk
 have e1:=hB.row
 have e2:=hB.met
 have iy:=hB.pb;have so:=hB.mb;have nP:=hB.ob;have pK:=hB.ko;have Ed:=hB.lo;have a9:=hB.ne
 have jc:=pK.ag
 rw[Ih]
 unfold uD at e1
 refine aQ Tryz.f311 ?_
 simp only[Tryz.f311]
 unfold cX
 by_cases fC:u.kind=2
 ·have o3:0≤u.x∧u.x<g.nodes.length:=by
   have h1:=hu.1
   have h2:=hu.2 fC
   unfold bM.Ok at h1
   omega
  obtain⟨i,hi⟩:=wbz o3.1
  have qW:u.x.toNat=i:=by omega
  have cn:i<g.nodes.length:=by omega
  rw[qW]
  have a1:=bI cn
  have m1:=Ie (l:=l) cn
  have dk:decide (u.kind=2)=true:=wz fC
  by_cases hm:i∈l
  ·rw[wx (fun q=>q.2 hm),wI (fun q=>q.2 hm)]
   rw[wz hm]at m1
   clear hu o3 fC qW
   repeat'(first|refine az 1 [Fx,Fx,Fx,Fx,Fx,Fx,Fx,Fx,Fx,Fx,Fx,Fx,Fx] ?_|simp(disch:=omega)only[↓aa,ab,simprocAttr,sa,sI, *])
   all_goals try omega
   exact⟨_,_,_,_,_,_,_,_,_,_,hB.go aw (by simp(disch:=omega)only[sm,sl,sI]),t1,t2,hK⟩
  ·rw[wz (show u.kind=2∧i∉l from⟨fC,hm⟩),wF ⟨fC,hm⟩]
   rw[wx hm]at m1
   clear hu o3 fC qW
   have ms:=zbo (l:=l) cn
   have ml:=Ec g.nodes.length l
   obtain⟨r,o,cells,gg,tt,part,rfl,hr,aG,a8,f,w,rfl,hf,hw⟩:=bJ i g.nodes[i] (by simp)
   have en:=(pK.objs r hr).trans aG
   have ho:=hg.node g.nodes[i] (wam cn)
   generalize g.nodes[i]=nd at*
   obtain⟨-, -,o3,o4, -⟩:=ho
   have je:=hf;have jR:=hw
   obtain⟨⟨fa,fc,rfl,⟨_,fm⟩,_⟩,_⟩:=hf
   obtain⟨⟨wa,wc,rfl,⟨_,wm⟩,_⟩,_⟩:=hw
   repeat'(first|refine az 1 [Fx,Fx,Fx,Fx,Fx,Fx,Fx,Fx,Fx,Fx,Fx,Fx,Fx] ?_|simp(disch:=omega)only[↓aa,ab,simprocAttr,sa,sI, *])
   all_goals try omega
   have Ee:=(hB.go (H':=H.newRow [.int .i64 u.kind,.int .i64 i]) aw (by simp(disch:=omega)only[sm,sl,sI])).zbf (pJ g.nodes.length (l++[i]))
   refine af.mono (Ii _ (by simp(disch:=omega)only[sm,sl,sI];omega) nd.kind _ _ nd (je.ko dP.mono Ee.ko) (jR.ko RW.mono Ee.ko) (by omega) (by omega)) ?_
   rintro _ H2 ⟨rfl,s2⟩
   have jX:=Ee.go s2.ko s2.lo
   have n2:=s2.ag
   simp(disch:=omega)only[sm,sl,sI]at n2
   have e1:=jX.row
   have e2:=jX.met
   have e3:=jX.jW
   have Ed:=jX.lo
   unfold uD at e1
   have hq:IntKind.i64.wrap (top.tdiv 1)=top:=by rw[Int.tdiv_one];exact wrap_i64 (by omega) (by omega)
   have nk:=zbl (z:= .slice none 0 0) hK
   obtain⟨A0,ea0,Bc,nA0⟩:∃ A,appendT 1 8 ((H2.cd (H2.next+1)).newRow [.int .i64 l.length]) (.slice none 0 0) 1 [.int .i64 l.length]=some (.slice (some ⟨H2.next+1,0,none⟩) 1 1,A)∧PB H0 (A.cd H0.lo) p mt mp _ _ _ _ _ _ _ _ _ _ _ _ _ _ _ _ _∧A.next=H2.next+2:=by
    refine⟨((H2.cd (H2.next+1)).newRow [.int .i64 l.length]).dx 1 [.int .i64 l.length],?_,((jX.go (H':=H2.newRow [.int .i64 l.length]) aw (by simp(disch:=omega)only[sm,sl,sI])).dx 1 [.int .i64 l.length]).go ?_ ?_,by rw[fW,aB,aE]⟩
    ·have e:((H2.cd (H2.next+1)).newRow [.int .i64 l.length]).next=H2.next+1:=by rw[aB,aE]
     simp only[appendT,e]
     rfl
    ·refine⟨?_,fun x hx=>?_,fun x hx=>?_⟩
     ·rw[aE,fW,fW,aB,aB,aE];omega
     ·rw[aL,iM,iM,aM,aM,aB,aB,aE,aL]
     ·rw[Cr,jN,jN,aN,aN,aB,aB,aE,Cr]
    ·rw[aK,yv,aH];omega
   have Pc:=zbm (H:=A0.cd H0.lo) (r:=mp) (es:=es) (v:= .slice (some ⟨H2.next+1,0,none⟩) 1 1) (by rw[Bc.lo];omega) hK
   have f1:=Bc.row
   have f3:=Bc.jW
   rw[aL]at f1 f3
   have Bd:=Bc.lq (es++[(.int .i64 top,.slice (some ⟨H2.next+1,0,none⟩) 1 1)])
   obtain⟨r1,k1,A1,g1,Pe,fp,pL⟩:=(Bd.go (H':=((A0.cd H0.lo).setObj mp (.map (es++[(.int .i64 top,.slice (some ⟨H2.next+1,0,none⟩) 1 1)]))).newRow [.int .i64 i]) aw (by simp(disch:=omega)only[sm,sl,sI])).zbg (bytes:=8) (x:= .int .i64 i) aj rfl (yH (by omega))
   obtain⟨r2,k2,A2,g2,Ef,qQ,uA⟩:=(pL.go (H':=A1.newRow [.int .i64 top]) aw (by simp(disch:=omega)only[sm,sl,sI])).zbh (bytes:=8) (x:= .int .i64 top) aj rfl (yH (by omega))
   obtain⟨r3,k3,A3,g3,Pg,yD,Ij⟩:=(uA.go (H':=A2.newRow [.bool false]) aw (by simp(disch:=omega)only[sm,sl,sI])).zbi (bytes:=1) (x:= .bool false) aj rfl (Pb (by omega))
   have w1:=Bd.row
   have w2:=pL.row
   have w3:=uA.row
   have w4:=Ij.row
   have l0:(A0.cd H0.lo).lo=H0.lo:=aK ..
   have l1:=Bd.lo;have l2:=pL.lo;have l3:=uA.lo;have l4:=Ij.lo
   have m2:A0.next≤A1.next:=by simp(disch:=omega)only[sm,sl,sI]at fp;omega
   have b1:=(Bd.go (H':=((A0.cd H0.lo).setObj mp (.map (es++[(.int .i64 top,.slice (some ⟨H2.next+1,0,none⟩) 1 1)]))).newRow [.int .i64 i]) aw (by simp(disch:=omega)only[sm,sl,sI])).sm.base
   have b2:=(pL.go (H':=A1.newRow [.int .i64 top]) aw (by simp(disch:=omega)only[sm,sl,sI])).bg.base
   simp(disch:=omega)only[sm,sl,sI]at qQ yD
   unfold uD at f1 w1 w2 w3 w4
   have uf:=fun c c' c'' zbr=>(((Ij.Ea c).Ea c').Ea c'').Ea zbr
   clear hB Ee jX Bc Bd pL uA s2 fp
   repeat'(first|(apply ao<;>intro)|refine az 7 [Fx,Fx,Fx,Fx,Fx,Fx,Fx,Fx,(false,[12],[]),Fx,Fx,Fx,(false,[8],[]),Fx,Fx,Fx,Fx,Fx,Fx,Fx,Fx,Fx] ?_|refine az 9 [Fx,Fx,Fx,Fx,Fx,Fx,Fx,Fx,Fx,Fx] ?_|refine az 10 [Fx,Fx,Fx,Fx,Fx,Fx,Fx,Fx,Fx,Fx,Fx,Fx,Fx,Fx,Fx,Fx,Fx,Tx,Fx] ?_|refine az 11 [Fx,Fx,Fx,Fx,Fx,Fx,Fx,Fx,Fx,(false,[13,17,23],[]),Fx,Fx,Fx,(false,[9],[]),Fx,Fx,Fx,(false,[9],[]),Fx,(false,[23],[]),Fx,Fx,Fx,(false,[9,19],[]),Fx,Fx,Fx,Fx,Fx,Fx,Fx,Fx,Fx,Fx,Fx] ?_|simp(disch:=omega)only[↓aa,ab,simprocAttr,sa,sI,sL,zbk,zbj,cC,iN,eF, *])
   all_goals try omega
   have cg:(l++[i]).length=l.length+1:=by simp
   refine⟨.slice (some ⟨r1,0,none⟩) (l.length+1) k1,.slice (some ⟨r2,0,none⟩) (l.length+1) k2,.slice (some ⟨r3,0,none⟩) (l.length+1) k3,top+(1+nd.fields.length+nd.bO.length),some g1,some g2,some g3,gw,bc++[.int .i64 top],es++[(.int .i64 top,.slice (some ⟨H2.next+1,0,none⟩) 1 1)],?_,by omega,by rw[cg];omega,hK.more (by omega)⟩
   unfold uD
   rw[cg,show(l++[i]).map Bb=l.map Bb++[.int .i64 i] by simp[Bb],←zbp hk]
   exact uf _ _ _ _
 ·rw[wx (fun q=>fC q.1),wI (fun q=>fC q.1)]
  have dk:decide (u.kind=2)=false:=wx fC
  clear hu fC
  repeat'(first|refine az 1 [Fx,Fx,Fx,Fx,Fx,Fx,Fx,Fx,Fx,Fx,Fx,Fx,Fx] ?_|simp(disch:=omega)only[↓aa,ab,simprocAttr,sa,sI, *])
  all_goals try omega
  exact⟨_,_,_,_,_,_,_,_,_,_,hB.go aw (by simp(disch:=omega)only[sm,sl,sI]),t1,t2,hK⟩
section
variable{H0 H H':Heap}{p mt mp:Nat}{x y:Value}{g:Gr}{l:List Nat}{k:Nat}{first:Int}{W:Wx}
theorem PF.go(h:PF H0 H p mt mp x y g l k first W)(s:Ko H H')(e:H'.lo=H.lo):PF H0 H' p mt mp x y g l k first W:=by
 obtain⟨sv,bv,lv,top,gs,gb,gl,gw,bc,es,hB,h1⟩:=h
 exact⟨sv,bv,lv,top,gs,gb,gl,gw,bc,es,hB.go s e,h1⟩
structure PH(H0 H:Heap)(p:Nat):Prop where
 ko:Ko H0 H
 lo:H.lo=H0.lo
 p1:H0.next≤p
 p2:p<H.next
theorem PF.ph(h:PF H0 H p mt mp x y g l k first W):PH H0 H p:=by
 obtain⟨_,_,_,_,_,_,_,_,_,_,hB,_⟩:=h
 exact⟨hB.ko,hB.lo,hB.pb.1,hB.pb.2⟩
theorem PF.ways(h:PF H0 H p mt mp x y g l k first W){W':Wx}(hw:∀ gw,OW H0.next 2 p mt H W gw→OW H0.next 2 p mt H W' gw):PF H0 H p mt mp x y g l k first W':=by
 obtain⟨sv,bv,lv,top,gs,gb,gl,gw,bc,es,hB,h1⟩:=h
 exact⟨sv,bv,lv,top,gs,gb,gl,gw,bc,es,hB.ways (hw gw hB.wyq),h1⟩
theorem PF.Ba(h:PF H0 H p mt mp x y g l k first W):PF H0 H p mt mp x y g l k first W0:=by
 obtain⟨sv,bv,lv,top,gs,gb,gl,gw,bc,es,hB,h1⟩:=h
 exact⟨sv,bv,lv,top,gs,gb,gl,none,bc,es,hB.Ba,h1⟩
theorem PF.one(h:PF H0 H p mt mp x y g l k first W0)(s:Ko H H')(e:H'.lo=H.lo){r:Nat}{c:List Value}(h1:H.next≤r)(h2:r<H'.next)(h3:c.length=2)(h4:H'.objs.get r=some (.row c none true)):PF H0 H' p mt mp x y g l k first ⟨.slice (some ⟨r,0,none⟩) 1 1,1,c,[]⟩:=by
 obtain⟨sv,bv,lv,top,gs,gb,gl,gw,bc,es,hB,h5⟩:=h.go s e
 have hn:=h.ph.ko.ag
 obtain⟨_,_,_,_,_,_,_,_,_,_,Ph,_⟩:=h
 have hp:=Ph.pb;have hm:=Ph.mb
 exact⟨sv,bv,lv,top,gs,gb,gl,none,bc,es,hB.Ba.ways ⟨.inr ⟨r,rfl,rfl,h3,h4,by omega,h2,by omega,by omega⟩,fun e he=>(by cases he)⟩,h5⟩
theorem PF.boxed{v:Value}{n:Nat}{cs c:List Value}{q:Nat}(h:PF H0 H p mt mp x y g l k first ⟨v,n,cs,[]⟩)(s:Ko H H')(e:H'.lo=H.lo)(hq:H.next≤q)(Ik:q<H'.next)(hr:H'.objs.get q=some (.row c none true)):PF H0 H' p mt mp x y g l k first ⟨v,n,cs,[(q,c)]⟩:=by
 obtain⟨sv,bv,lv,top,gs,gb,gl,gw,bc,es,hB,h1⟩:=h
 have hp:=hB.pb;have hm:=hB.mb
 refine⟨sv,bv,lv,top,gs,gb,gl,gw,bc,es,(hB.go s e).ways ⟨(hB.go s e).wyq.1,fun e he=>?_⟩,h1⟩
 rw[waG]at he
 subst he
 exact⟨Ik,show q≠p by omega,show q≠mt by omega,hr⟩
theorem PF.bx(h:PF H0 H p mt mp x y g l k first W):∀ e∈W.bx,e.1<H.next∧H.objs.get e.1=some (.row e.2 none true):=by
 obtain⟨_,_,_,_,_,_,_,_,_,_,hB,_⟩:=h
 intro e he
 obtain⟨h1,_,_,h2⟩:=hB.wyq.2 e he
 exact⟨h1,h2⟩
theorem PF.Ia{r kk n q:Nat}{wc c:List Value}{a z:Value}(h:PF H0 H p mt mp x y g l k first ⟨.slice (some ⟨r,0,none⟩) (n+1) kk,n+1,wc++[a,z],[(q,c)]⟩)(aj:H0.lo≤H0.next)(hqr:q≠r)(fG:wc.length=n*2)(m:Int):
  ∃H',H.write r (n*2+1) [.int .i64 m]=some H'∧H.next≤H'.next∧PF H0 H' p mt mp x y g l k first ⟨.slice (some ⟨r,0,none⟩) (n+1) kk,n+1,wc++[a,.int .i64 m],[(q,c)]⟩:=by
 obtain⟨sv,bv,lv,top,gs,gb,gl,gw,bc,es,hB,h1⟩:=h
 obtain⟨H',q1,q2,q3⟩:=hB.Ia (x:= .int .i64 m) (o:=n*2+1) aj rfl (by simp;omega) (fun e he=>by rw[waG]at he;subst he;exact hqr)
 refine⟨H',q1,q2,sv,bv,lv,top,gs,gb,gl,gw,bc,es,?_,h1⟩
 have e:over [.int .i64 m] (n*2+1) (wc++[a,z])=wc++[a,.int .i64 m]:=by
  rw[oY _ _ _ (by simp;omega),←fG,List.take_append,wZ (by omega),wbs (by simp)]
  simp
 rw[e]at q3
 exact q3
theorem PF.push{r kk n:Nat}{wc part:List Value}{bytes:Nat}(h:PF H0 H p mt mp x y g l k first ⟨.slice (some ⟨r,0,none⟩) (n+1) kk,n+1,wc,[]⟩)(aj:H0.lo≤H0.next)(hp:part.length=2)(hc:part.all isCell=true)(hs:ed 2 bytes (n+1+1)=true):
  ∃r' k' H',appendT 2 bytes H (.slice (some ⟨r,0,none⟩) (n+1) kk) 1 part=some (.slice (some ⟨r',0,none⟩) (n+1+1) k',H')∧H.next≤H'.next∧PF H0 H' p mt mp x y g l k first ⟨.slice (some ⟨r',0,none⟩) (n+1+1) k',n+1+1,wc++part,[]⟩:=by
 obtain⟨sv,bv,lv,top,gs,gb,gl,gw,bc,es,hB,h1⟩:=h
 obtain⟨r',k',H',g',q1,q2,q3⟩:=hB.push (bytes:=bytes) aj (Nat.succ_le_succ (wJ _)) hp hc hs
 exact⟨r',k',H',q1,q2,sv,bv,lv,top,gs,gb,gl,some g',bc,es,q3,h1⟩
end
structure Wy where
 v:Value
 l:List bM
 ae:Nat
def nm(st:List Wy):List Value:=st.flatMap fun w=>[w.v,.int .i64 w.ae]
def iT(st:List Wy):List bM:=st.flatMap fun w=>w.l.drop w.ae
structure Il(H0:Heap)(g:Gr)(w:Wy):Prop where
 sl:aZ dP 2 H0 w.v w.l
 ok:∀ u∈w.l,mq g.nodes.length u
 le:w.ae≤w.l.length
 len:w.l.length≤100000
theorem zbs(st:List Wy):(nm st).length=st.length*2:=by
 induction st with
 |nil=>rfl
 |cons w st ih=>unfold nm at *;rw[wbm,wN,ih,wY];simp;omega
theorem yJ(w:Wy)(st:List Wy):nm (w::st).reverse=nm st.reverse++[w.v,.int .i64 w.ae]:=by
 unfold nm;rw[List.reverse_cons,wbd];rfl
theorem zbt(H0 H:Heap)(aj:H0.lo≤H0.next){x y:Value}{g:Gr}(hG:fD H0 x y g)(hg:gP g)(hn:g.nodes.length≤1000000){p mt mp:Nat}(hP:PF H0 H p mt mp x y g [] 0 0 W0)(v:Value)(vs:List bM)(hv:aZ dP 2 H0 v vs)(mV:∀ u∈vs,mq g.nodes.length u)(Pj:vs.length≤100000)(hD:Dn g [] vs):
  af E (aC 293) [ptr p 0,v] H fun r H'=>r= .tuple #[]∧∃ l,gM g l∧PF H0 H' p mt mp x y g l 0 0 W0:=by
 have yK:=hP.ph
 have jc:=yK.ko.ag
 have iq:=yK.lo
 have oI:=yK.p2
 obtain⟨⟨va,vc,rfl,⟨_,vm⟩,zif⟩,hvg⟩:=id hv
 refine aQ Tryz.f293 ?_
 simp only[Tryz.f293]
 simp(disch:=omega)only[↓aa,ab,simprocAttr,sa,sI,cC,iN,eF,wL,wat,wY,waA,waV,waZ, *]
 all_goals try omega
 refine bC H [0,4] (fun T5 H5 u5 j5 n5 l5 g5=>?_) bL
 try simp(disch:=omega)only[sm,sl,sI]at n5 l5 g5
 simp only[sq,simprocAttr]at u5
 refine bt kq (fun nn T X=>∃ (l:List Nat) (st:List Wy) (wv:Value),nn=(g.nodes.length-l.length)*10000+2*(iT st).length+st.length∧(T.get 4=some (wv))∧(T.get 0=T5.get 0)∧True∧True∧(PF H0 X p mt mp x y g l 0 0 ⟨wv,st.length,nm st.reverse,[]⟩∧Dn g l (iT st)∧st.length≤l.length+1∧∀ w∈st,Il H0 g w)) ?_ ?_
 ·have b1:=g5 H.next
  rw[cB rfl,wai]at b1
  refine⟨_,[],[⟨.slice va vs.length vc,vs,0⟩],.slice (some ⟨H.next,0,none⟩) 1 1,rfl,?_,?_,trivial,trivial,hP.one j5 l5 (wy _) (by omega) rfl b1,by simpa[iT]using hD,wy _,?_⟩
  ·exact ay
  ·exact ay
  ·intro w hw
   rw[waG]at hw
   subst hw
   exact⟨hv,mV,wJ _,Pj⟩
 rintro nn iB X5 ⟨l,st,wv,rfl,m5,w5,_,_,qX,uE,ft,hW⟩ Qs hQ aD ai
 have h5:=qX.ph
 have Pk:=h5.ko.ag
 have Pl:=h5.lo
 have kU:=AY _ l uE.nodup uE.lt
 cases st with
 |nil=>
  obtain⟨a,kk,rfl⟩:∃ a k,wv= .slice a 0 k:=by
   obtain⟨_,_,_,_,_,_,_,_,_,_,hB,_⟩:=qX
   exact hB.wyq.any
  repeat'(first|((with_reducible show Qs _ _ _ _ _);refine ai _ _ _ _ ?_)|simp(disch:=omega)only[↓aa,ab,simprocAttr,sa,sI, *])
  all_goals first|exact⟨l,uE.done,qX.Ba⟩|exact⟨rfl,l,uE.done,qX.Ba⟩|trace_state
 |cons w st=>
  obtain⟨r,kk,full,gg,rfl,aG,iU,lF,hbr,pz,gF,Be⟩:∃ r k full gg,wv= .slice (some ⟨r,0,none⟩) (st.length+1) k∧X5.objs.get r=some (.row full gg true)∧full.take ((st.length+1)*2)=nm (w::st).reverse∧(st.length+1)*2≤full.length∧H0.next≤r∧st.length+1≤k∧r<X5.next∧(gg=none∨∃ g,gg=some (g,2)):=by
   obtain⟨_,_,_,_,_,_,_,_,_,_,hB,_⟩:=qX
   exact hB.wyq.form rfl
  have yL:=hW w (wW ..)
  have Im:∀ w∈st,Il H0 g w:=fun w hw=>hW w (wM _ hw)
  clear hW
  obtain⟨wv0,wl,ae⟩:=w
  obtain⟨lG,Io,qu,sr⟩:=yL
  dsimp only at lG Io qu sr
  have zbu:=lG
  obtain⟨⟨wa,wc,rfl,⟨_,wm⟩,fG⟩,_⟩:=lG
  rw[yJ]at iU
  have gi:(nm st.reverse).length=st.length*2:=by rw[zbs,List.length_reverse]
  have f0:full[st.length*2]? =some (.slice wa wl.length wc):=by
   have:=congrArg (fun l=>l[st.length*2]?) iU
   dsimp only at this
   rw[wab,wF (by omega),waB (by omega),gi,wbS]at this
   exact this
  have f1:full[st.length*2+1]? =some (.int .i64 ae):=by
   have:=congrArg (fun l=>l[st.length*2+1]?) iU
   dsimp only at this
   rw[wab,wF (by omega),waB (by omega),gi,show st.length*2+1-st.length*2=1 by omega]at this
   exact this
  rw[wY]at ft
  have O9:∀ h m:Nat,oZ 2 (some (.row full gg true)) r 0 (0,h,m) false=some (.slice (some ⟨r,0,none⟩) h m):=fun h m=>by
   rcases Be with rfl|⟨g2,rfl⟩
   ·rw[zC];simp
   ·rw[zD];simp
  have t0:(((st.length+1:Nat):Int)-1).toNat=st.length:=by omega
  by_cases he:ae=wl.length
  ·subst he
   repeat'(first|(apply ao<;>intro)|refine az 3 [Fx,Fx,Fx,Fx,Fx,Fx,Fx,Fx,Fx,Fx] ?_|((with_reducible show Qs _ _ _ _ _);refine ai _ _ _ _ ?_)|simp(disch:=omega)only[↓aa,ab,simprocAttr,sa,sI, *])
   all_goals try omega
   rw[yJ]at qX
   have hP6:PF H0 X5 p mt mp x y g l 0 0 ⟨.slice (some ⟨r,0,none⟩) st.length kk,st.length,nm st.reverse,[]⟩:=qX.ways fun gw hw=>by
    have:=OW.pop hw
    rwa [wbX (by omega),wZ (by omega)]at this
   have hD6:Dn g l (iT st):=by
    have:iT (⟨.slice wa wl.length wc,wl,wl.length⟩::st)=iT st:=by unfold iT;rw[wbm,wbF,wL]
    rw[←this];exact uE
   have hm:(iT (⟨.slice wa wl.length wc,wl,wl.length⟩::st)).length=(iT st).length:=by unfold iT;rw[wbm,wbF,wL]
   refine hQ _ _ _ ?_ ⟨l,st,.slice (some ⟨r,0,none⟩) st.length kk,rfl,?_,?_,trivial,trivial,hP6,hD6,by omega,Im⟩
   ·rw[hm,wY];omega
   ·exact ay
   ·exact ay
  ·have hlt:ae<wl.length:=by omega
   obtain⟨r2,o2,cells,g2,t2,part,rfl,dW,jY,iV,rfl⟩:=fG ae wl[ae] (by simp)
   have a1:=bI hlt
   have e1:=(h5.ko.objs r2 dW).trans jY
   have hu:=Io wl[ae] (wam hlt)
   have hdr:wl.drop ae=wl[ae]::wl.drop (ae+1):=wX hlt
   generalize wl[ae]=u at*
   unfold cy at iV
   repeat'(first|(apply ao<;>intro)|refine az 3 [Fx,Fx,Fx,Fx,Fx,Fx,Fx,Fx,Fx,Fx] ?_|refine az 5 [Fx,Fx,Fx,Fx,Fx,Fx,Fx,Fx,Fx,Fx,Fx,Fx] ?_|((with_reducible show Qs _ _ _ _ _);refine ai _ _ _ _ ?_)|simp(disch:=omega)only[↓aa,ab,simprocAttr,sa,sI, *])
   all_goals try omega
   generalize hN:(X5.newRow [.int .i64 0,.int .i64 0]).setRow X5.next [.int .i64 u.kind,.int .i64 u.x]=N
   have kN:Ko X5 N:=by rw[←hN];exact bL
   have lN:N.lo=X5.lo:=by rw[←hN];simp(disch:=omega)only[sm,sl,sI]
   have nN:N.next=X5.next+1:=by rw[←hN];simp(disch:=omega)only[sm,sl,sI]
   have bN:N.objs.get X5.next=some (.row [.int .i64 u.kind,.int .i64 u.x] none true):=by rw[←hN,aA,cB rfl];rfl
   clear hN
   rw[yJ]at qX
   obtain⟨Z,z1,z2,z3⟩:=(qX.boxed kN lN (wy _) (by omega) bN).Ia aj (by omega) gi ((ae:Int)+1)
   have z4:writeV N r (st.length*2+1) [.int .i64 ((ae:Int)+1)] (some (.row full gg true))=some Z:=by
    rw[←(kN.objs r gF).trans aG,←AL];exact z1
   have z5:=z3.ph
   have z6:=(z3.bx _ (waG.2 rfl)).2
   have z7:=(z3.bx _ (waG.2 rfl)).1
   have z8:=z5.lo
   have z9:=z5.ko.ag
   simp(disch:=omega)only[↓aa,ab,simprocAttr,sa,sI, *]
   all_goals try omega
   have c1:=zbq H0 Z aj hG hg z3 (wJ _) (by omega) u hu
   unfold cX at c1
   refine af.mono c1 ?_
   clear c1
   rintro _ V ⟨rfl,hV⟩
   have y5:=hV.ph
   have y6:=(hV.bx _ (waG.2 rfl)).2
   have y7:=(hV.bx _ (waG.2 rfl)).1
   have y8:=y5.lo
   have y9:=y5.ko.ag
   dsimp only at y6 y7
   have Bf:iT (⟨.slice (some ⟨r2,o2,none⟩) wl.length wc,wl,ae⟩::st)=u::(wl.drop (ae+1)++iT st):=by unfold iT;rw[wbm,hdr];rfl
   have oI:iT (⟨.slice (some ⟨r2,o2,none⟩) wl.length wc,wl,ae+1⟩::st)=wl.drop (ae+1)++iT st:=by unfold iT;rw[wbm]
   rw[Bf]at uE
   have yL:Il H0 g ⟨.slice (some ⟨r2,o2,none⟩) wl.length wc,wl,ae+1⟩:=⟨zbu,Io,by dsimp only;omega,sr⟩
   have uF:PF H0 V p mt mp x y g (jg l [u]) 0 0 ⟨.slice (some ⟨r,0,none⟩) (st.length+1) kk,st.length+1,nm st.reverse++[.slice (some ⟨r2,o2,none⟩) wl.length wc,.int .i64 ((ae:Int)+1)],[]⟩:=hV.ways fun gw hw=>⟨hw.1,fun e he=>(by cases he)⟩
   have jq:(u::(wl.drop (ae+1)++iT st)).length=(wl.drop (ae+1)++iT st).length+1:=rfl
   have kA:∀ (f:Value) (L:List bM),nm (⟨f,L,0⟩::⟨.slice (some ⟨r2,o2,none⟩) wl.length wc,wl,ae+1⟩::st:List Wy).reverse=(nm st.reverse++[.slice (some ⟨r2,o2,none⟩) wl.length wc,.int .i64 ((ae:Int)+1)])++[f,.int .i64 0]:=fun f L=>by rw[yJ,yJ];rfl
   have Pm:nm (⟨.slice (some ⟨r2,o2,none⟩) wl.length wc,wl,ae+1⟩::st:List Wy).reverse=nm st.reverse++[.slice (some ⟨r2,o2,none⟩) wl.length wc,.int .i64 ((ae:Int)+1)]:=by rw[yJ];rfl
   clear z1 z2 z3 z4 z5 z6 z7 z8 z9 bN nN lN kN qX hV
   by_cases hm:u.kind=2∧u.x.toNat∉l
   ·have dm:decide (u.kind=2∧u.x.toNat∉l)=true:=wz hm
    have mZ:jg l [u]=l++[u.x.toNat]:=by rw[Ih,wF hm]
    have o3:0≤u.x∧u.x<g.nodes.length:=by
     have h1:=hu.1
     have h2:=hu.2 hm.1
     unfold bM.Ok at h1
     omega
    have pM:=uE.new hg.right hm.1 hm.2
    have fP:=AY _ _ pM.nodup pM.lt
    rw[wN,wbJ]at fP
    rw[mZ]at uF
    obtain⟨i,hi⟩:=wbz o3.1
    have qW:u.x.toNat=i:=by omega
    have cn:i<g.nodes.length:=by omega
    rw[qW]at uF pM dm
    have a2:=bI cn
    obtain⟨⟨⟨na,nc,rfl,⟨_,pN⟩,bJ⟩,Ig⟩,⟨⟨ra,rc,rfl,_,_⟩,_⟩⟩:=id hG
    have pO:∃ c2 c3 c4 c5 c6 c7 c8 c9 Ip Iq Ir,V.objs.get p=some (.row [.slice na g.nodes.length nc,.slice ra g.roots.length rc,c2,c3,c4,c5,c6,c7,c8,c9,Ip,Iq,Ir] none true):=by
     obtain⟨_,_,_,_,_,_,_,_,_,_,hB,_⟩:=uF
     exact⟨_,_,_,_,_,_,_,_,_,_,_,hB.row⟩
    obtain⟨_,_,_,_,_,_,_,_,_,_,_,e4⟩:=pO
    obtain⟨r3,Pn,Is,g3,t3,It,rfl,rU,pO,pP,f,Po,rfl,hf,Pp⟩:=bJ i g.nodes[i] (by simp)
    have e5:=(y5.ko.objs r3 rU).trans pO
    have lF:dg g i=g.nodes[i].fields:=Bg (wj cn)
    have jd:=hg.node g.nodes[i] (wam cn)
    rw[lF]at pM
    generalize g.nodes[i]=nd at*
    obtain⟨⟨fa,fc,rfl,⟨_,fm⟩,_⟩,_⟩:=id hf
    obtain⟨q3,q4,q5⟩:=vL pP
    have y10:=y5.p2
    have zbv:=congrArg List.length Bf
    clear pP hm Bf oI jq gi
    repeat'(first|refine az 8 [Fx,Fx,Fx,Fx,Fx,Fx,Fx,Fx,Fx,Fx,Fx,Fx,Fx,Fx,Fx] ?_|simp(disch:=omega)only[↓aa,ab,simprocAttr,sa,sI,cC,iN,eF,wL,wat,wY,waA,waV,waZ, *])
    all_goals try omega
    obtain⟨r',k',A,ea,na,hA⟩:=(uF.go (H':=V.newRow [.slice fa nd.fields.length fc,.int .i64 0]) aw (by simp(disch:=omega)only[sm,sl,sI])).push (part:=[.slice fa nd.fields.length fc,.int .i64 0]) (bytes:=32) aj rfl rfl (by simp[ed,lM,cC];omega)
    have hAl:=hA.ph.lo
    rw[←kA (.slice fa nd.fields.length fc) nd.fields]at hA
    clear kA Pm e4 e5 uF
    simp(disch:=omega)only[↓aa,ab,simprocAttr,sa,sI, *]
    all_goals try omega
    have Pq:iT (⟨.slice fa nd.fields.length fc,nd.fields,0⟩::⟨.slice (some ⟨r2,o2,none⟩) wl.length wc,wl,ae+1⟩::st:List Wy)=nd.fields++(wl.drop (ae+1)++iT st):=by unfold iT;rw[wbm,wbm];rfl
    refine hQ _ _ _ ?_ ⟨l++[i],⟨.slice fa nd.fields.length fc,nd.fields,0⟩::⟨.slice (some ⟨r2,o2,none⟩) wl.length wc,wl,ae+1⟩::st,.slice (some ⟨r',0,none⟩) (st.length+1+1) k',rfl,?_,?_,trivial,trivial,hA,by rw[Pq];exact pM,by simp only[wY,wN,waA];omega,fun w hw=>?_⟩
    ·rw[Pq]
     have hb:=jd.2.2.1
     simp only[zbv,wY,wN,waA]
     omega
    ·exact ay
    ·exact ay
    ·rcases wad.1 hw with rfl|hw
     ·exact⟨hf,jd.2.2.2.2,wJ _,by dsimp only;have:=jd.2.2.1;omega⟩
     ·rcases wad.1 hw with rfl|hw
      ·exact yL
      ·exact Im w hw
   ·have dm:decide (u.kind=2∧u.x.toNat∉l)=false:=wx hm
    have mZ:jg l [u]=l:=by rw[Ih,wI hm]
    rw[mZ]at uF
    have hDo:=uE.aS hm
    rw[←Pm]at uF
    simp(disch:=omega)only[↓aa,ab,simprocAttr,sa,sI,dm,y6]
    all_goals try omega
    refine hQ _ _ _ ?_ ⟨l,⟨.slice (some ⟨r2,o2,none⟩) wl.length wc,wl,ae+1⟩::st,.slice (some ⟨r,0,none⟩) (st.length+1) kk,rfl,?_,?_,trivial,trivial,uF,by rw[oI];exact hDo,by rw[wY];omega,fun w hw=>by
     rcases wad.1 hw with rfl|hw
     ·exact yL
     ·exact Im w hw⟩
    ·simp only[Bf,oI,wY];omega
    ·exact ay
    ·exact ay
section
variable{b g:Nat}{H:Heap}{r n k:Nat}{l:List Int}
def Bx(q:Nat)(H H':Heap):Prop:=H'.next=H.next∧H'.lo=H.lo∧(∀x,x≠q→H'.objs.get x=H.objs.get x)∧∀ x,H'.grps.get x=H.grps.get x
theorem Bx.rfl'{q:Nat}{H:Heap}:Bx q H H:=⟨rfl,rfl,fun _ _=>rfl,fun _=>rfl⟩
theorem Bx.trans{q:Nat}{H X Y:Heap}(h:Bx q H X)(k:Bx q X Y):Bx q H Y:=⟨k.1.trans h.1,k.2.1.trans h.2.1,fun x hx=>(k.2.2.1 x hx).trans (h.2.2.1 x hx),fun x=>(k.2.2.2 x).trans (h.2.2.2 x)⟩
theorem Bx.set{q:Nat}{H:Heap}(c:List Value):Bx q H (H.setRow q c):=⟨rfl,rfl,fun x hx=>by rw[aA,au hx];rfl,fun _=>rfl⟩
theorem DS.bx{q:Nat}{X:Heap}{v:Value}{c:List Value}(h:DS b g H v l)(hq:H.objs.get q=some (.row c none true))(k:Bx q H X):DS b g X v l:=by
 refine⟨h.1.cz (by rw[k.1];exact wy _) (fun x c z t g _ _ hx ho=>?_) fun g _=>k.2.2.2 g,by rw[k.2.1];exact h.2.1,h.2.2⟩
 rw[k.2.2.1 x fun e=>by rw[e,hq]at ho;simp at ho]
 exact ho
theorem II(h:DS b g H (.slice (some ⟨r,0,none⟩) n k) l)(x y:Int)(h1:0≤x)(h2:x<n)(h3:0≤y)(h4:y<n)(q:Nat)(c:Int)(hq:H.objs.get q=some (.row [.int .i64 c] none true))(aj:H.lo≤q)(c1:0≤c)(c2:c≤1000000):
  af E (aC 251) [(.slice (some ⟨r,0,none⟩) n k),.int .i64 x,.int .i64 y,ptr q 0] H fun v H'=>∃ (x' y' c':Int),(x'=x∧y'=y∨x'=y∧y'=x)∧(0≤c'∧c'≤c+1)∧v= .tuple #[.int .i64 x',.int .i64 y']∧H'.objs.get q=some (.row [.int .i64 c'] none true)∧Bx q H H':=by
 obtain⟨hl,hn, -, -,full,gg,Y1,Y2,F,G,e1,qA, -⟩:=h.eZ
 refine aQ Tryz.f251 ?_
 simp only[Tryz.f251]
 repeat'(first|(apply ao<;>intro)|refine az 1 [Fx,Fx,Fx,Fx,Fx,Fx,Fx,Fx,Fx] ?_|((with_reducible show af _ _ _ _ _);refine lI (mz _ _ _) ?_)|simp(disch:=omega)only[↓aa,ab,simprocAttr,sa,iX, *])
 all_goals try omega
 ·exact⟨y,x,c+1,.inr ⟨rfl,rfl⟩,by omega,rfl,rfl,Bx.set _⟩
 ·exact⟨x,y,c,.inl ⟨rfl,rfl⟩,by omega,rfl,rfl,Bx.rfl'⟩
theorem IJ(h:DS b g H (.slice (some ⟨r,0,none⟩) n k) l)(x y z:Int)(h1:0≤x)(h2:x<n)(h3:0≤y)(h4:y<n)(h5:0≤z)(h6:z<n)(q:Nat)(c:Int)(hq:H.objs.get q=some (.row [.int .i64 c] none true))(aj:H.lo≤q)(c1:0≤c)(c2:c≤1000):
  af E (aC 213) [(.slice (some ⟨r,0,none⟩) n k),.int .i64 x,.int .i64 y,.int .i64 z,ptr q 0] H fun v H'=>∃ (m c':Int),(m=x∨m=y∨m=z)∧(0≤c'∧c'≤c+3)∧v= .int .i64 m∧H'.objs.get q=some (.row [.int .i64 c'] none true)∧Bx q H H':=by
 obtain⟨hl,hn, -⟩:=h.eZ
 refine aQ Tryz.f213 ?_
 simp only[Tryz.f213]
 simp(disch:=omega)only[↓aa,ab,simprocAttr,sa, *]
 all_goals try omega
 refine af.mono (II h x y h1 h2 h3 h4 q c hq aj c1 (by omega)) ?_
 rintro _ Z ⟨x1,y1,d1,e1,f1,rfl,g1,b1⟩
 have k1:=h.bx hq b1
 simp(disch:=omega)only[↓aa,ab,simprocAttr,sa, *]
 all_goals try omega
 refine af.mono (II k1 y1 z (by omega) (by omega) (by omega) (by omega) q d1 g1 (by rw[b1.2.1];exact aj) (by omega) (by omega)) ?_
 rintro _ Z2 ⟨y2,z2,d2,e2,f2,rfl,g2,b2⟩
 have k2:=k1.bx g1 b2
 simp(disch:=omega)only[↓aa,ab,simprocAttr,sa, *]
 all_goals try omega
 refine af.mono (II k2 x1 y2 (by omega) (by omega) (by omega) (by omega) q d2 g2 (by rw[b2.2.1,b1.2.1];exact aj) (by omega) (by omega)) ?_
 rintro _ Z3 ⟨x3,y3,d3,e3,f3,rfl,g3,b3⟩
 simp(disch:=omega)only[↓aa,ab,simprocAttr,sa, *]
 all_goals first|exact⟨y3,d3,by omega,by omega,rfl,rfl,(b1.trans b2).trans b3⟩|trace_state
theorem IK(h:DS b g H (.slice (some ⟨r,0,none⟩) n k) l)(x:Int)(h1:1≤x)(h2:x+1<n)(q:Nat)(c:Int)(hq:H.objs.get q=some (.row [.int .i64 c] none true))(aj:H.lo≤q)(c1:0≤c)(c2:c≤1000):
  af E (aC 212) [(.slice (some ⟨r,0,none⟩) n k),.int .i64 x,ptr q 0] H fun v H'=>∃ (m c':Int),(m=x-1∨m=x∨m=x+1)∧(0≤c'∧c'≤c+3)∧v= .int .i64 m∧H'.objs.get q=some (.row [.int .i64 c'] none true)∧Bx q H H':=by
 obtain⟨hl,hn, -⟩:=h.eZ
 refine aQ Tryz.f212 ?_
 simp only[Tryz.f212]
 simp(disch:=omega)only[↓aa,ab,simprocAttr,sa, *]
 all_goals try omega
 refine af.mono (IJ h (x-1) x (x+1) (by omega) (by omega) (by omega) (by omega) (by omega) (by omega) q c hq aj c1 c2) ?_
 rintro _ Z ⟨m,c',e1,e2,rfl,e4,e5⟩
 simp(disch:=omega)only[↓aa,ab,simprocAttr,sa, *]
 all_goals first|exact⟨m,c',e1,e2,rfl,rfl⟩|trace_state
theorem zb4(hx:H.lo≤H.next)(h:DS b g H (.slice (some ⟨r,0,none⟩) n k) l)(a e:Int)(h1:0≤a)(h2:a+12<e)(h3:e≤n):
  af E (aC 149) [(.slice (some ⟨r,0,none⟩) n k),.int .i64 a,.int .i64 e] H fun v H'=>∃ (m t:Int),(a≤m∧m<e)∧v= .tuple #[.int .i64 m,.int .i64 t]∧aq H H':=by
 obtain⟨hl,hn, -⟩:=h.eZ
 have hq:(e-a).tdiv 4=(e-a)/4:=Int.tdiv_eq_ediv_of_nonneg (by omega)
 have kN:Ko H (H.newRow [.int .i64 0]):=aw
 have lN:(H.newRow [.int .i64 0]).lo=H.lo:=by simp(disch:=omega)only[sm,sl]
 have dN:=h.ko kN lN
 have qN:(H.newRow [.int .i64 0]).objs.get H.next=some (.row [.int .i64 0] none true):=by simp(disch:=omega)only[aA,aM,aB,aJ,aH,aI,aN,aO,aR,aP,aL,aE,aK,au,sl]
 have fin:∀ X:Heap,Bx H.next (H.newRow [.int .i64 0]) X→aq H X:=fun X b=>⟨b.2.1.trans lN,by rw[b.1];exact kN.ag,fun x hx=>(b.2.2.1 x (by omega)).trans (kN.objs x hx),fun x hx=>(b.2.2.2 x).trans (kN.grps x hx)⟩
 have hd:0≤(e-a)/4:=by omega
 refine aQ Tryz.f149 ?_
 simp only[Tryz.f149]
 by_cases hc:50≤e-a
 ·repeat'(first|(apply ao<;>intro)|simp(disch:=omega)only[↓aa,ab,simprocAttr,sa,hq, *])
  all_goals try omega
  generalize H.newRow [.int .i64 0]=N at*
  refine af.mono (IK dN (a+(e-a)/4*1) (by omega) (by omega) H.next 0 qN (by omega) (by omega) (by omega)) ?_
  rintro _ Z ⟨m1,d1,e1,f1,rfl,g1,b1⟩
  have k1:=dN.bx qN b1
  repeat'(first|(apply ao<;>intro)|apply bQ|refine kV (fun _=>?_) (fun _=>?_)|simp(disch:=omega)only[↓aa,ab,simprocAttr,sa,hq, *])
  all_goals try omega
  refine af.mono (IK k1 (a+(e-a)/4*2) (by omega) (by omega) H.next d1 g1 (by rw[b1.2.1];omega) (by omega) (by omega)) ?_
  rintro _ Z2 ⟨m2,d2,e2,f2,rfl,g2,b2⟩
  have k2:=k1.bx g1 b2
  repeat'(first|(apply ao<;>intro)|apply bQ|refine kV (fun _=>?_) (fun _=>?_)|simp(disch:=omega)only[↓aa,ab,simprocAttr,sa,hq, *])
  all_goals try omega
  refine af.mono (IK k2 (a+(e-a)/4*3) (by omega) (by omega) H.next d2 g2 (by rw[b2.2.1,b1.2.1];omega) (by omega) (by omega)) ?_
  rintro _ Z3 ⟨m3,d3,e3,f3,rfl,g3,b3⟩
  have k3:=k2.bx g2 b3
  repeat'(first|(apply ao<;>intro)|apply bQ|refine kV (fun _=>?_) (fun _=>?_)|simp(disch:=omega)only[↓aa,ab,simprocAttr,sa,hq, *])
  all_goals try omega
  refine af.mono (IJ k3 m1 m2 m3 (by omega) (by omega) (by omega) (by omega) (by omega) (by omega) H.next d3 g3 (by rw[b3.2.1,b2.2.1,b1.2.1];omega) (by omega) (by omega)) ?_
  rintro _ Z4 ⟨m4,d4,e4,f4,rfl,g4,b4⟩
  have sZ:=fin Z4 (((b1.trans b2).trans b3).trans b4)
  clear fin
  repeat'(first|(apply ao<;>intro)|simp(disch:=omega)only[↓aa,ab,simprocAttr,sa,hq, *])
  all_goals first|exact⟨m4,_,⟨by omega,by omega⟩,rfl⟩|exact⟨m4,_,⟨by omega,by omega⟩,rfl,sZ⟩|trace_state
 ·repeat'(first|(apply ao<;>intro)|simp(disch:=omega)only[↓aa,ab,simprocAttr,sa,hq, *])
  all_goals try omega
  generalize H.newRow [.int .i64 0]=N at*
  refine af.mono (IJ dN (a+(e-a)/4*1) (a+(e-a)/4*2) (a+(e-a)/4*3) (by omega) (by omega) (by omega) (by omega) (by omega) (by omega) H.next 0 qN (by omega) (by omega) (by omega)) ?_
  rintro _ Z4 ⟨m4,d4,e4,f4,rfl,g4,b4⟩
  have sZ:=fin Z4 b4
  clear fin
  repeat'(first|(apply ao<;>intro)|simp(disch:=omega)only[↓aa,ab,simprocAttr,sa,hq, *])
  all_goals first|exact⟨m4,_,⟨by omega,by omega⟩,rfl⟩|exact⟨m4,_,⟨by omega,by omega⟩,rfl,sZ⟩|trace_state
end
structure dU where
 z:Nat
 v:Value
 n:Nat
 cs:List Value
 go:Option Nat
def dU.ae(b:Nat)(X:Heap)(d:dU):Prop:=OS b d.z X d.v d.n d.cs d.go∨(d.go=none∧d.n=0∧d.cs=[]∧∃ q,d.v= .slice (some ⟨q,0,none⟩) 0 0∧b≤q∧q<X.next∧X.objs.get q=some (.row [] none true))
def dU.re(d e:dU):Prop:=d.go=none∨d.go≠e.go
abbrev Ky:=Nat×Nat
structure ke(b:Nat)(X:Heap)(I:Ky→Prop)(D:Ky→dU):Prop where
 ae:∀ i,I i→(D i).ae b X
 re:∀ i j,I i→I j→i≠j→(D i).re (D j)
def dQ(D:Ky→dU)(i:Ky)(d:dU):Ky→dU:=fun j=>if j=i then d else D j
theorem pV(D:Ky→dU)(i:Ky)(d:dU):dQ D i d i=d:=wF rfl
theorem jA(D:Ky→dU){i j:Ky}(d:dU)(h:j≠i):dQ D i d j=D j:=wI h
section
variable{b:Nat}{X X':Heap}{I:Ky→Prop}{D:Ky→dU}
theorem dU.ae.ko{d:dU}(h:d.ae b X)(k:Ko X X'):d.ae b X':=by
 rcases h with h|⟨h1,h2,h3,q,h4,h5,h6,h7⟩
 ·exact .inl (h.ko k)
 ·exact .inr ⟨h1,h2,h3,q,h4,h5,wq h6 k.ag,(k.objs q h6).trans h7⟩
theorem dU.ae.lt{d:dU}(h:d.ae b X){g:Nat}(hg:d.go=some g):b≤g∧g<X.next:=by
 rcases h with h|⟨h1,_⟩
 ·exact h.lt g hg
 ·rw[h1]at hg;cases hg
theorem dU.ae.cU{d:dU}{g:Nat}(h:d.ae b X)(e:eA b g X X')(hg:d.go≠some g):d.ae b X':=by
 rcases h with h|⟨h1,h2,h3,q,h4,h5,h6,h7⟩
 ·exact .inl (h.cU e hg)
 ·exact .inr ⟨h1,h2,h3,q,h4,h5,wq h6 e.ag,e.objs q _ h6 h7 fun c z t q=>by simp at q⟩
theorem dU.ae.box{d:dU}(h:d.ae b X){p:Nat}{c c':List Value}{t:Bool}(hp:X.objs.get p=some (.row c none t))(hc:c≠[]):d.ae b (X.setRow p c'):=by
 rcases h with h|⟨h1,h2,h3,q,h4,h5,h6,h7⟩
 ·exact .inl (h.setRow hp)
 ·have:q≠p:=fun e=>by
   rw[e,hp]at h7
   simp only[wi,AObj.row.injEq]at h7
   exact hc h7.1
  exact .inr ⟨h1,h2,h3,q,h4,h5,h6,by rw[aA,au this];exact h7⟩
theorem ke.nil(b:Nat)(X:Heap)(D:Ky→dU):ke b X (fun _=>False) D:=⟨fun _ h=>h.elim,fun _ _ h=>h.elim⟩
theorem ke.ko(h:ke b X I D)(k:Ko X X'):ke b X' I D:=⟨fun i hi=>(h.ae i hi).ko k,h.re⟩
theorem ke.box(h:ke b X I D){p:Nat}{c c':List Value}{t:Bool}(hp:X.objs.get p=some (.row c none t))(hc:c≠[]):ke b (X.setRow p c') I D:=⟨fun i hi=>(h.ae i hi).box hp hc,h.re⟩
theorem zhX{d e:dU}{g':Nat}(hd:d.re e)(he:e.ae b X)(hg:d.go=some g'∨d.go=none∧g'=X.next):e.go≠some g':=fun q=>by
 rcases hg with hg|⟨hg,rfl⟩
 ·rcases hd with h|h
  ·rw[h]at hg;cases hg
  ·exact h (hg.trans q.symm)
 ·have:=(he.lt q).2;omega
theorem ke.put(h:ke b X I D){g':Nat}(e:eA b g' X X'){i:Ky}(hi:I i)(hg:(D i).go=some g'∨(D i).go=none∧g'=X.next){d:dU}(hd:d.ae b X')(RJ:d.go=some g'):ke b X' I (dQ D i d):=by
 have a9:∀ j,I j→j≠i→(D j).go≠some g':=fun j hj jL=>zhX (h.re i j hi hj (wbl jL)) (h.ae j hj) hg
 refine⟨fun j hj=>?_,fun j j' hj ud RK=>?_⟩
 ·by_cases q:j=i
  ·rw[q,pV];exact hd
  ·rw[jA D _ q];exact(h.ae j hj).cU e (a9 j hj q)
 ·by_cases q:j=i
  ·have q':j'≠i:=fun r=>RK (q.trans r.symm)
   rw[q,pV,jA D _ q']
   exact .inr fun r=>a9 j' ud q' (by rw[←r];exact RJ)
  ·rw[jA D _ q]
   by_cases q':j'=i
   ·rw[q',pV]
    exact .inr fun r=>a9 j hj q (by rw[r];exact RJ)
   ·rw[jA D _ q'];exact h.re j j' hj ud RK
theorem ke.app(h:ke b X I D){i:Ky}(hi:I i){bytes:Nat}{part:List Value}(hb:b≤X.next)(aj:X.lo≤b)(hp:part.length=(D i).z)(hc:part.all isCell=true)(hs:ed (D i).z bytes ((D i).n+1)=true):
  ∃r c X' g',appendT (D i).z bytes X (D i).v 1 part=some (.slice (some ⟨r,0,none⟩) ((D i).n+1) c,X')∧eA b g' X X'∧ke b X' I (dQ D i ⟨(D i).z,.slice (some ⟨r,0,none⟩) ((D i).n+1) c,(D i).n+1,(D i).cs++part,some g'⟩):=by
 rcases h.ae i hi with hq|⟨h1,h2,h3,q,h4,h5,h6,h7⟩
 ·obtain⟨v',X',g',e1,e2,e3,e4⟩:=hq.app (bytes:=bytes) (part:=part) hb aj hp hc hs
  obtain⟨r,c,_,_,e5,_⟩:=id e2
  subst e5
  exact⟨r,c,X',g',e1,e3,h.put e3 hi e4 (.inl e2) rfl⟩
 ·have e1:=yz (z:=(D i).z) (b:=bytes) (k:=1) (new:=part) h7 (by decide) (by rw[h2]at hs;exact hs)
  have e2:=OS.dx (b:=b) (z:=(D i).z) (n:=1) (H:=X) (cs:=part) hb (by decide) (by omega)
  rw[h2,h3,h4,wau,wL]
  exact⟨X.next,1,_,X.next,e1,Jy hb part,h.put (Jy hb part) hi (.inr ⟨h1,rfl⟩) (.inl e2) rfl⟩
theorem ke.write(h:ke b X I D){i:Ky}(hi:I i){new:List Value}{o:Nat}(aj:X.lo≤b)(hc:new.all isCell=true)(hn:new≠[])(hf:o+new.length≤(D i).cs.length):
  ∃r c full aS g X',(D i).go=some g∧(D i).v= .slice (some ⟨r,0,none⟩) (D i).n c∧X.objs.get r=some (.row full (some (g,(D i).z)) true)∧X.grps.get g=some aS∧X.write r o new=some X'∧eA b g X X'∧ke b X' I (dQ D i ⟨(D i).z,(D i).v,(D i).n,over new o (D i).cs,some g⟩):=by
 rcases h.ae i hi with hq|⟨h1,h2,h3,_⟩
 ·cases xw:(D i).go with
  |none=>rw[xw]at hq;rw[hq.2.2]at hf;cases new with
   |nil=>exact absurd rfl hn
   |cons a l=>simp at hf
  |some g=>
   rw[xw]at hq
   obtain⟨r,c,X',e1,e2,e3,e4⟩:=hq.write (o:=o) aj hc hf
   obtain⟨r',c',full,aS,f1,f2,f3,f4,f5,f6,_⟩:=id hq
   rw[e1]at f1
   simp only[waq,wi,wcE,wcl,wbT]at f1
   obtain⟨rfl,rfl⟩:=f1
   exact⟨r,c,full,aS,g,X',rfl,e1,f5,f6,e2,e4,h.put e4 hi (.inl xw) (.inl e3) rfl⟩
 ·rw[h3]at hf
  cases new with
  |nil=>exact absurd rfl hn
  |cons a l=>simp at hf
theorem dU.ae.reads{α:Type}{R:Heap→List Value→α→Prop}{d:dU}{l:List α}(h:d.ae b X)(hl:l.length=d.n)(hR:dD R d.z X d.cs l):im R d.z X d.v l:=by
 rcases h with h|⟨h1,h2,h3,q,h4,h5,h6,h7⟩
 ·exact h.oS hl hR
 ·have:l=[]:=wac (by omega)
  subst this
  rw[h4]
  refine⟨⟨_,0,rfl,⟨wy _,wJ _⟩,fun i x h=>by simp at h⟩,fun a m c e=>?_⟩
  simp only[waq]at e
  obtain⟨rfl,_,_⟩:=e
  exact .inr ⟨q,[],_,_,rfl,h6,h7⟩
theorem dU.ae.form{d:dU}(h:d.ae b X):∃ a c,d.v= .slice a d.n c:=by
 rcases h with h|⟨_,h2,_,q,h4,_⟩
 ·cases hg:d.go with
  |none=>rw[hg]at h;exact⟨none,0,by rw[h.1,h.2.1]⟩
  |some g=>rw[hg]at h;obtain⟨r,c,_,_,q,_⟩:=h;exact⟨_,c,q⟩
 ·exact⟨_,0,by rw[h4,h2]⟩
end
end Go.AM
