/-
  Walks over letters of the functions that the law reaches; written small by a program of mine.
-/
import Derived.Test.YtjgppeeplkidpaaGreatGM1
set_option linter.unusedVariables false
set_option linter.unusedSectionVars false
namespace Go.AM
attribute [local instance] fnMaps
open Go Go.Proofs
set_option maxRecDepth 100000
set_option maxHeartbeats 4000000
set_option linter.unusedSimpArgs false
theorem sP(l:List Span):(l.flatMap b9).length=l.length*2:=(v8 (Heap.empty) l).1
theorem zfJ(l:List Span)(n:Nat):(l.flatMap b9).take (n*2)=(l.take n).flatMap b9:=by
 induction l generalizing n with
 |nil=>simp
 |cons x l ih=>
  cases n with
  |zero=>simp
  |succ n=>rw[wch,wbm,wbm,←ih n,show(n+1)*2=n*2+2 by omega];rfl
theorem zfK(l:List Span)(n:Nat):(l.flatMap b9).drop (n*2)=(l.drop n).flatMap b9:=by
 induction l generalizing n with
 |nil=>simp
 |cons x l ih=>
  cases n with
  |zero=>simp
  |succ n=>rw[waV,wbm,←ih n,show(n+1)*2=n*2+2 by omega];rfl
theorem IT(l:List Span):(l.flatMap b9).all isCell=true:=by
 rw[waC]
 intro x hx
 obtain⟨y,_,hy⟩:=List.mem_flatMap.1 hx
 simp only[b9,wad,wbb,wck]at hy
 rcases hy with rfl|rfl<;>rfl
theorem BM(out:List Span)(x:Span):(gx out x).length=out.length+1:=by
 unfold gx
 simp only[wN,wU,wY,wbe]
 omega
theorem Px:∀ (l out:List Span),(l.foldl gx out).length=out.length+l.length
 |[],out=>rfl
 |x::l,out=>by rw[wb4,Px l,BM,wY];omega
theorem zfL(z b:Nat)(H:Heap)(r n:Nat)(new:List Value):appendT z b H (.slice (some ⟨r,0,none⟩) n n) 0 new=some (.slice (some ⟨r,0,none⟩) n n,H):=by
 simp only[appendT,waX,wP (wy n),wai]
 rfl
theorem nw(l:List Value):df l 1=l:=by rw[iG,dW,waw]
theorem zfM(H:Heap):sliceV E H 25 (.slice none 0 0) none (some (.int .i64 0)) none=some (.slice none 0 0):=kq
theorem zfN(H:Heap):sliceV E H 25 (.slice none 0 0) (some (.int .i64 0)) none none=some (.slice none 0 0):=kq
theorem rn{n:Nat}(h:n≤100000):eu 2 16 n=true:=by
 unfold eu
 rw[wP (show n*16≤10000000000 by omega),wP (show n≤1000000000 by omega)]
 rfl
structure zfO(b:Nat)(X:Heap)(out:List Span)(x:Span)(j q:Nat)(gq:Option (Nat×Nat))(s1:Value)(H1:Heap)(H2:Heap)(s3:Value)(H3:Heap):Prop where
 a1:appendT 2 16 (X.newRow []) (.slice (some ⟨X.next,0,none⟩) 0 0) j ((out.take j).flatMap b9)=some (s1,H1)
 a2:appendT 2 16 (H1.newRow [.int .i64 x.ae,.int .i64 x.size]) s1 1 [.int .i64 x.ae,.int .i64 x.size]=some (.slice (some ⟨H1.next+1,0,none⟩) (j+1) (j+1),H2)
 a3:appendT 2 16 H2 (.slice (some ⟨H1.next+1,0,none⟩) (j+1) (j+1)) (out.length-j) ((out.drop j).flatMap b9)=some (s3,H3)
 row:∃ t2,H2.objs.get q=some (.row (out.flatMap b9) gq t2)
 lo1:H1.lo=X.lo
 dZ:X.next+1≤H1.next
 be1:∀ y,y<b→H1.objs.get y=X.objs.get y
 lo2:H2.lo=X.lo
 yU:X.next+1≤H2.next
 be2:∀ y,y<b→H2.objs.get y=X.objs.get y
 own:dD b 2 H3 s3 (out.length+1) ((out.take j++x::out.drop j).flatMap b9)
 gr:Grown b X H3
theorem zfP{b:Nat}{X:Heap}{out:List Span}(x:Span){j q:Nat}{gq:Option (Nat×Nat)}(hb:b≤X.next)(an:X.lo≤b)(hq:q<X.next)(aC:X.objs.get q=some (.row (out.flatMap b9) gq true))(hj:j≤out.length)(bj:out.length≤1000):∃ s1 H1 H2 s3 H3,zfO b X out x j q gq s1 H1 H2 s3 H3:=by
 have g0:Grown b X (X.newRow []):=Nv (eO _) hb
 have se:dD b 2 (X.newRow []) (.slice (some ⟨X.next,0,none⟩) 0 0) 0 []:=⟨rfl,.inr ⟨X.next,rfl,hb,by simp(disch:=omega)only[ay,aN,az,aF,aE,aB,aM,aO,aQ,aP,aL,aD,aH,au,sl];omega,.inl (by simp(disch:=omega)only[ay,aN,az,aF,aE,aB,aM,aO,aQ,aP,aL,aD,aH,au,sl,cr])⟩⟩
 obtain⟨s1,H1,a1,o1,g1⟩:=HB (bytes:=16) (k:=j) (new:=(out.take j).flatMap b9) se (by simp(disch:=omega)only[ay,aN,az,aF,aE,aB,aM,aO,aQ,aP,aL,aD,aH,au,sl];omega) (by simp(disch:=omega)only[ay,aN,az,aF,aE,aB,aM,aO,aQ,aP,aL,aD,aH,au,sl];omega) (by rw[sP,wU,waS hj]) (IT _) (rn (by omega))
 have IU:=g0.trans g1
 have n1:=g1.ag
 rw[az]at n1
 have l1:=IU.lo
 have gn:Grown b H1 (H1.newRow [.int .i64 x.ae,.int .i64 x.size]):=Nv (eO _) (by omega)
 obtain⟨H2,a2,o2,g2,n2⟩:=vI (bytes:=16) (k:=1) (new:=[.int .i64 x.ae,.int .i64 x.size]) (o1.same (eO [.int .i64 x.ae,.int .i64 x.size])) (by simp(disch:=omega)only[ay,aN,az,aF,aE,aB,aM,aO,aQ,aP,aL,aD,aH,au,sl];omega) (by simp(disch:=omega)only[ay,aN,az,aF,aE,aB,aM,aO,aQ,aP,aL,aD,aH,au,sl];omega) (by omega) rfl rfl (rn (by omega))
 have ES:=(IU.trans gn).trans g2
 have l2:=ES.lo
 have n2':=(gn.trans g2).ag
 rw[az]at a2 o2
 rw[wau]at a2 o2
 obtain⟨s3,H3,a3,o3,g3⟩:=HB (bytes:=16) (k:=out.length-j) (new:=(out.drop j).flatMap b9) o2 (by omega) (by omega) (by rw[sP,wbe]) (IT _) (rn (by omega))
 obtain⟨t2,hr⟩:=ES.cells q _ _ _ hq aC
 refine⟨s1,H1,H2,s3,H3,a1,a2,a3,⟨t2,hr⟩,l1,n1,fun y hy=>(IU.below y hy).1,l2,by omega,fun y hy=>(ES.below y hy).1,?_,ES.trans g3⟩
 have e:j+1+(out.length-j)=out.length+1:=by omega
 rw[e,wL]at o3
 rw[wbd,wbm]
 have e2:(out.take j).flatMap b9++[Value.int .i64 x.ae,Value.int .i64 x.size]++(out.drop j).flatMap b9=(out.take j).flatMap b9++(b9 x++(out.drop j).flatMap b9):=by rw[waP];rfl
 rw[←e2]
 exact o3
theorem zfQ(H:Heap)(an:H.lo≤H.next)(v:Value)(l:List Span)(hv:SLr bD 2 H v l)(hl:l.length≤1000):af E (aK 260) [v] H fun r H'=>(dD H.next 2 H' r (lE l).length ((lE l).flatMap b9))∧aq H H':=by
 obtain⟨⟨a,ca,rfl,⟨_,ft⟩,bs⟩, -⟩:=hv
 refine aV Tryz.f260 ?_
 simp only[Tryz.f260]
 simp(disch:=omega)only[↓aa,ab,simprocAttr,sa, *]
 refine bP H [0,3,4] (fun T1 H1 u1 k1 n1 l1 g1=>?_) aj
 try simp(disch:=omega)only[sm,sl]at n1 l1 g1
 simp only[sq,simprocAttr]at u1
 refine bL kq (fun nn T X=>∃ (i:Nat) (v:Value) (out:List Span),nn=l.length-i∧(T.get 3=some (v)∧T.get 4=some (.int .i64 i))∧(T.get 0=T1.get 0)∧True∧True∧(i≤l.length∧out=lE (l.take i)∧out.length=i∧dD H.next 2 X v i (out.flatMap b9)∧aq H X∧(i=0→v= .slice none 0 0))) ?_ ?_
 ·refine⟨_,0,_,.nil,rfl,?_,?_,trivial,trivial,wJ _,rfl,rfl,⟨rfl,.inl ⟨rfl,rfl⟩⟩,aA,fun _=>rfl⟩<;>exact aJ
 rintro nn dA X1 ⟨i,vo,out,rfl,m1,w1,_,_,hi,hE,fN,hO,hS,vO⟩ Qs hQ aG ai
 have kX:=hS.ko
 have EO:=hS.lo
 have EP:=hS.ag
 by_cases hlt:i<l.length
 ·obtain⟨r,o,cells,gg,tt,part,rfl,hr,aC,aR,rfl⟩:=bs i l[i] (by simp)
  have a1:=bn hlt
  have e1:=kX.objs r hr
  have bM:gx out l[i]=lE (l.take (i+1)):=by rw[hE,lE,lE,wR,wj hlt,List.foldl_append];rfl
  generalize l[i]=x at aR bM
  obtain⟨c1,c2⟩:=qJ aR
  clear hE
  have hO0:=hO
  obtain⟨qB,eM⟩:=hO
  rcases eM with⟨rfl,h0⟩|⟨q,rfl,hq1,hq2,ET⟩
  ·subst h0
   have se:out=[]:=wac fN
   subst se
   repeat'(first|(apply ak<;>intro)|((with_reducible show Qs _ _ _ _ _);refine ai _ _ _ _ ?_)|simp(disch:=omega)only[↓aa,ab,simprocAttr,sa, *])
   all_goals try omega
   have kI:=hQ
   refine bP X1 [0,3,4,5] (fun T2 H2 u2 j2 n2 l2 g2=>?_) aj
   try simp(disch:=omega)only[sm,sl]at n2 l2 g2
   simp only[sq,simprocAttr]at u2
   refine bL kq (fun nn T X=>nn=0∧(T.get 5=some (.int .i64 0))∧(T.get 0=T2.get 0∧T.get 3=T2.get 3∧T.get 4=T2.get 4)∧True∧True∧(Ko H2 X∧X.lo=H2.lo)) ?_ ?_
   ·refine⟨_,rfl,?_,?_,trivial,trivial,Ko.refl _,rfl⟩<;>exact aJ
   rintro nn vU X2 ⟨rfl,m2,w2,_,_,kY,lY⟩ Qs hQ aG ai
   have gk:=j2.trans kY
   have e2:=gk.objs r (by omega)
   obtain⟨H3,xl,mn,rh,xo⟩:=vI (size:=2) (bytes:=16) (k:=1) (new:=[.int .i64 x.ae,.int .i64 x.size]) (H:=(X2.newRow []).newRow [.int .i64 x.ae,.int .i64 x.size]) (s:= .slice (some ⟨X2.next,0,none⟩) 0 0) (n:=0) (cs:=[]) (b:=H.next) ⟨rfl,.inr ⟨X2.next,rfl,by have:=gk.ag;omega,by simp(disch:=omega)only[ay,aN,az,aF,aE,aB,aM,aO,aQ,aP,aL,aD,aH,au,sl];omega,.inl (by simp(disch:=omega)only[ay,aN,az,aF,aE,aB,aM,aO,aQ,aP,aL,aD,aH,au,sl,cr])⟩⟩ (by have:=gk.ag;simp(disch:=omega)only[ay,aN,az,aF,aE,aB,aM,aO,aQ,aP,aL,aD,aH,au,sl];omega) (by simp(disch:=omega)only[ay,aN,az,aF,aE,aB,aM,aO,aQ,aP,aL,aD,aH,au,sl];omega) (by omega) rfl rfl (by decide)
   have Iu:=gk.ag
   rw[wb2,waX]at aR
   have z1:=fun(X:Heap) (r n:Nat)=>zfL 2 16 X r n []
   repeat'(first|refine aw 6 [Fx,Fx,Fx,Fx,Fx,Fx,Fx,Fx,Fx,Fx,Fx,Fx,Fx,Fx,Fx,Fx,Fx,Fx,Fx,Fx,Fx,Fx,Fx,Fx,Fx,Fx,Fx,Fx,Fx,Fx,Fx,Fx,Fx,Fx,Fx,Fx,Fx,Fx,Fx,Fx,Fx,Fx,Fx,Fx] ?_|((with_reducible show Qs _ _ _ _ _);refine ai _ _ _ _ ?_)|simp(disch:=omega)only[↓aa,ab,simprocAttr,sa,cw,dW,nw,zfM,zfN,Nz, *])
   all_goals try omega
   have hQ:=kI
   have pU:aq H X2:=hS.trans (gk.same (by omega))
   have s3:aq H H3:=rh.same (by first|exact(pU.newRow _).newRow _) (wy _)
   rw[az,az]at mn
   have mo:dD H.next 2 H3 (.slice (some ⟨X2.next+1+1,0,none⟩) 1 1) (0+1) ([x].flatMap b9):=mn
   refine hQ _ _ _ ?_ ⟨0+1,_,gx .nil x,rfl,?_,?_,trivial,trivial,by omega,bM,BM _ _,mo,s3,fun h=>by omega⟩<;>exact aJ
  ·have hi0:¬ i=0:=by
    intro e
    have:=vO e
    simp at this
   clear vO
   obtain⟨av',cv,ev, -,hvo⟩:SL bD 2 X1 (.slice (some ⟨q,0,none⟩) i i) out:=hO0.reads fN (by omega) (v8 _ _)
   simp only[waq]at ev
   obtain⟨rfl, -,rfl⟩:=ev
   have ur:=sP out
   obtain⟨gq,ET,IV⟩:∃ gq,X1.objs.get q=some (.row (out.flatMap b9) gq true)∧(gq=none∨∃ g,gq=some (g,2)):=by
    rcases ET with h|⟨g,aT,h,_⟩
    ·exact⟨none,h,.inl rfl⟩
    ·exact⟨_,h,.inr ⟨g,rfl⟩⟩
   ·skip
    repeat'(first|(apply ak<;>intro)|((with_reducible show Qs _ _ _ _ _);refine ai _ _ _ _ ?_)|simp(disch:=omega)only[↓aa,ab,simprocAttr,sa, *])
    all_goals try omega
    have kI:=hQ
    refine bP X1 [0,3,4,5] (fun T2 H2 u2 j2 n2 l2 g2=>?_) aj
    try simp(disch:=omega)only[sm,sl]at n2 l2 g2
    simp only[sq,simprocAttr]at u2
    refine bL kq (fun nn T X=>∃ (j:Nat),nn=j+1∧(T.get 5=some (.int .i64 j))∧(T.get 0=T2.get 0∧T.get 3=T2.get 3∧T.get 4=T2.get 4)∧True∧True∧(j≤i∧mh x out i=mh x out j∧Ko H2 X∧X.lo=H2.lo)) ?_ ?_
    ·refine⟨_,i,rfl,?_,?_,trivial,trivial,wy _,rfl,Ko.refl _,rfl⟩<;>exact aJ
    rintro nn vU X2 ⟨j,rfl,m2,w2,_,_,hj,hP,kY,lY⟩ Qs hQ aG ai
    have gk:=j2.trans kY
    have e2:=gk.objs r (by omega)
    have e4:=gk.keeps hq2 ET
    have Iu:=gk.ag
    have pU:aq H X2:=hS.trans (gk.same (by omega))
    obtain⟨s1,Y1,Y2,s3,Y3,ap⟩:=zfP (b:=H.next) (X:=X2) (out:=out) x (j:=j) (by omega) (by omega) (by omega) e4 (by omega) (by omega)
    obtain⟨p1,p2,p3,⟨t2,p4⟩,p5,p6,p7,p8,p9,p10,xp,IW⟩:=ap
    have b1:=(p7 r hr).trans e2
    have b2:=(p10 r hr).trans e2
    have w1:cut (out.flatMap b9) 0 (j*2)=some ((out.take j).flatMap b9):=by rw[du,wF (by omega),waZ,zfJ]
    have w2:cut (out.flatMap b9) (j*2) ((i-j)*2)=some ((out.drop j).flatMap b9):=by rw[du,wF (by omega),zfK,wZ (by rw[sP,wbe];omega)]
    rw[fN]at p3 xp
    have w3:cut (out.flatMap b9) (if i=j then 0 else j*2) ((i-j)*2)=some ((out.drop j).flatMap b9):=by
     by_cases e:i=j
     ·subst e
      rw[wF rfl,wbS,wbs (by omega),du,wF (by omega)]
      rfl
     ·rw[wI e];exact w2
    obtain⟨off,sB,w4⟩:∃ off,(∀t,rJ 2 (some (.row (out.flatMap b9) gq t)) q 0 (j,i,i) false=some (.slice (some ⟨q,off,none⟩) (i-j) (i-j)))∧cut (out.flatMap b9) off ((i-j)*2)=some ((out.drop j).flatMap b9):=by
     rcases IV with rfl|⟨g,rfl⟩
     ·exact⟨_,fun t=>CX ..,by rw[wau];exact w3⟩
     ·exact⟨_,fun t=>FQ ..,by rw[wau];exact w2⟩
    have sA:rJ 2 (some (.row (out.flatMap b9) gq true)) q 0 (0,j,i) false=some (.slice (some ⟨q,0,none⟩) j i):=by
     rcases IV with rfl|⟨g,rfl⟩
     ·rw[CX,wI hi0];rfl
     ·rw[FQ];rfl
    clear w2 w3 IV
    by_cases h0:j=0
    ·have EU:mh x out i=j:=by rw[hP,h0];rfl
     have d0:decide ((0:Int)<(j:Int))=false:=wx (by omega)
     clear h0 hP
     repeat'(first|refine aw 6 [Fx,Fx,Fx,Fx,Fx,Fx,Fx,Fx,Fx,Fx,Fx,Fx,Fx,Fx,Fx,Fx,Fx,Fx,Fx,Fx,Fx,Fx,Fx,Fx,Fx,Fx,Fx,Fx,Fx,Fx,Fx,Fx,Fx,Fx,Fx,Fx,Fx,Fx,Fx,Fx,Fx,Fx,Fx,Fx] ?_|((with_reducible show Qs _ _ _ _ _);refine ai _ _ _ _ ?_)|simp(disch:=omega)only[↓aa,ab,simprocAttr,sa,cw,dW,nw,Nat.sub_zero, *])
     all_goals try omega
     have hQ:=kI
     have BN:aq H Y3:=IW.same pU (wy _)
     have cf:gx out x=out.take j++x::out.drop j:=by unfold gx;rw[fN,EU]
     rw[←cf]at xp
     refine hQ _ _ _ ?_ ⟨i+1,s3,gx out x,rfl,?_,?_,trivial,trivial,by omega,bM,by rw[BM,fN],xp,BN,fun h=>by omega⟩<;>exact aJ
    ·obtain⟨r3,o3,ziY,gg3,tt3,ziZ,er,AT,Py,Pz,rfl⟩:=hvo (j-1) (out[j-1]'(by omega)) (by simp)
     cases er
     rw[ET]at Py
     cases Py
     have a3:=bn (show j-1<i by omega)
     obtain⟨c3,c4⟩:=qJ Pz
     rw[wau]at c3 c4
     have d0:decide ((0:Int)<(j:Int))=true:=wz (by omega)
     have d1:(j:Int)-1=((j-1:Nat):Int):=by omega
     have zg:mh x out j=if re x (out[j-1]'(by omega))then mh x out (j-1)else j:=by
      obtain⟨k,rfl⟩:∃ k,j=k+1:=⟨j-1,by omega⟩
      rw[mh,wav,wj (by omega)]
      rfl
     clear Pz
     generalize (out[j-1]'(by omega))=y at zg c3 c4
     cases ln:re x y with
     |true=>
      rw[ln,wF rfl,←hP]at zg
      unfold re at ln
      have ln:=wap ln
      clear hP
      repeat'(first|(apply ak<;>intro)|apply bw|refine aw 6 [Fx,Fx,Fx,Fx,Fx,Fx,Fx,Fx,Fx,Fx,Fx,Fx,Fx,Fx,Fx,Fx,Fx,Fx,Fx,Fx,Fx,Fx,Fx,Fx,Fx,Fx,Fx,Fx,Fx,Fx,Fx,Fx,Fx,Fx,Fx,Fx,Fx,Fx,Fx,Fx,Fx,Fx,Fx,Fx] ?_|((with_reducible show Qs _ _ _ _ _);refine ai _ _ _ _ ?_)|simp(disch:=omega)only[↓aa,ab,simprocAttr,sa, *])
      all_goals try omega
      all_goals refine hQ _ _ _ ?_ ⟨j-1,rfl,?_,?_,trivial,trivial,by omega,zg,kY,lY⟩<;>exact aJ
     |false=>
      rw[ln,wI (by simp),←hP]at zg
      have EU:mh x out i=j:=zg
      unfold re at ln
      have ln:=wbI ln
      have d3:decide (x.ae<y.ae)=false:=wx (by omega)
      have d4:decide (x.ae=y.ae)=true→decide (x.size<y.size)=false:=fun h=>wx (by have:=wap h;omega)
      clear hP zg ln
      cases bE:decide (x.ae=y.ae)with
      |true=>
       have d5:=d4 bE
       clear d4
       repeat'(first|refine aw 6 [Fx,Fx,Fx,Fx,Fx,Fx,Fx,Fx,Fx,Fx,Fx,Fx,Fx,Fx,Fx,Fx,Fx,Fx,Fx,Fx,Fx,Fx,Fx,Fx,Fx,Fx,Fx,Fx,Fx,Fx,Fx,Fx,Fx,Fx,Fx,Fx,Fx,Fx,Fx,Fx,Fx,Fx,Fx,Fx] ?_|((with_reducible show Qs _ _ _ _ _);refine ai _ _ _ _ ?_)|simp(disch:=omega)only[↓aa,ab,simprocAttr,sa,cw,dW,nw,Nat.sub_zero, *])
       all_goals try omega
       have hQ:=kI
       have BN:aq H Y3:=IW.same pU (wy _)
       have cf:gx out x=out.take j++x::out.drop j:=by unfold gx;rw[fN,EU]
       rw[←cf]at xp
       refine hQ _ _ _ ?_ ⟨i+1,s3,gx out x,rfl,?_,?_,trivial,trivial,by omega,bM,by rw[BM,fN],xp,BN,fun h=>by omega⟩<;>exact aJ
      |false=>
       clear d4
       repeat'(first|refine aw 6 [Fx,Fx,Fx,Fx,Fx,Fx,Fx,Fx,Fx,Fx,Fx,Fx,Fx,Fx,Fx,Fx,Fx,Fx,Fx,Fx,Fx,Fx,Fx,Fx,Fx,Fx,Fx,Fx,Fx,Fx,Fx,Fx,Fx,Fx,Fx,Fx,Fx,Fx,Fx,Fx,Fx,Fx,Fx,Fx] ?_|((with_reducible show Qs _ _ _ _ _);refine ai _ _ _ _ ?_)|simp(disch:=omega)only[↓aa,ab,simprocAttr,sa,cw,dW,nw,Nat.sub_zero, *])
       all_goals try omega
       have hQ:=kI
       have BN:aq H Y3:=IW.same pU (wy _)
       have cf:gx out x=out.take j++x::out.drop j:=by unfold gx;rw[fN,EU]
       rw[←cf]at xp
       refine hQ _ _ _ ?_ ⟨i+1,s3,gx out x,rfl,?_,?_,trivial,trivial,by omega,bM,by rw[BM,fN],xp,BN,fun h=>by omega⟩<;>exact aJ
 ·repeat'(first|(apply ak<;>intro)|((with_reducible show Qs _ _ _ _ _);refine ai _ _ _ _ ?_)|simp(disch:=omega)only[↓aa,ab,simprocAttr,sa, *])
  all_goals try omega
  have ei:i=l.length:=by omega
  subst ei
  rw[waj]at hE
  subst hE
  rw[fN]
  exact hO
end Go.AM
