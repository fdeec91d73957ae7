/-
  Walks over letters of the functions that the law reaches; written small by a program of mine.
-/
import Derived.Test.YtjgppeeplkidpaaGreatGYG
set_option linter.unusedVariables false
set_option linter.unusedSectionVars false
namespace Go.AM
attribute [local instance] fnMaps
open Go Go.Proofs
set_option maxRecDepth 100000
set_option maxHeartbeats 4000000
set_option linter.unusedSimpArgs false
theorem sS(l:List Span):(l.flatMap b9).length=l.length*2:=(v7 (Heap.empty) l).1
theorem zgN(l:List Span)(n:Nat):(l.flatMap b9).take (n*2)=(l.take n).flatMap b9:=by
 induction l generalizing n with
 |nil=>simp
 |cons x l ih=>
  cases n with
  |zero=>simp
  |succ n=>rw[wch,wbm,wbm,←ih n,show(n+1)*2=n*2+2 by omega];rfl
theorem zgO(l:List Span)(n:Nat):(l.flatMap b9).drop (n*2)=(l.drop n).flatMap b9:=by
 induction l generalizing n with
 |nil=>simp
 |cons x l ih=>
  cases n with
  |zero=>simp
  |succ n=>rw[waV,wbm,←ih n,show(n+1)*2=n*2+2 by omega];rfl
theorem Jj(l:List Span):(l.flatMap b9).all isCell=true:=by
 rw[waC]
 intro x hx
 obtain⟨y,_,hy⟩:=List.mem_flatMap.1 hx
 simp only[b9,wad,wbb,wck]at hy
 rcases hy with rfl|rfl<;>rfl
theorem By(out:List Span)(x:Span):(gE out x).length=out.length+1:=by
 unfold gE
 simp only[wN,wU,wY,wbe]
 omega
theorem QS:∀ (l out:List Span),(l.foldl gE out).length=out.length+l.length
 |[],out=>rfl
 |x::l,out=>by rw[wb4,QS l,By,wY];omega
theorem zgP(z b:Nat)(H:Heap)(r n:Nat)(new:List Value):appendT z b H (.slice (some ⟨r,0,none⟩) n n) 0 new=some (.slice (some ⟨r,0,none⟩) n n,H):=by
 simp only[appendT,waX,wP (wy n),wai]
 rfl
theorem nF(l:List Value):dr l 1=l:=by rw[iN,eF,waw]
theorem zgQ(H:Heap):sliceV E H 25 (.slice none 0 0) none (some (.int .i64 0)) none=some (.slice none 0 0):=kq
theorem zgR(H:Heap):sliceV E H 25 (.slice none 0 0) (some (.int .i64 0)) none none=some (.slice none 0 0):=kq
theorem rq{n:Nat}(h:n≤100000):ed 2 16 n=true:=by
 unfold ed
 rw[wP (show n*16≤10000000000 by omega),wP (show n≤1000000000 by omega)]
 rfl
structure zgS(b:Nat)(X:Heap)(out:List Span)(x:Span)(j q:Nat)(gq:Option (Nat×Nat))(s1:Value)(H1:Heap)(H2:Heap)(s3:Value)(H3:Heap):Prop where
 a1:appendT 2 16 (X.newRow []) (.slice (some ⟨X.next,0,none⟩) 0 0) j ((out.take j).flatMap b9)=some (s1,H1)
 a2:appendT 2 16 (H1.newRow [.int .i64 x.ae,.int .i64 x.size]) s1 1 [.int .i64 x.ae,.int .i64 x.size]=some (.slice (some ⟨H1.next+1,0,none⟩) (j+1) (j+1),H2)
 a3:appendT 2 16 H2 (.slice (some ⟨H1.next+1,0,none⟩) (j+1) (j+1)) (out.length-j) ((out.drop j).flatMap b9)=some (s3,H3)
 row:∃ t2,H2.objs.get q=some (.row (out.flatMap b9) gq t2)
 lo1:H1.lo=X.lo
 fp:X.next+1≤H1.next
 be1:∀ y,y<b→H1.objs.get y=X.objs.get y
 lo2:H2.lo=X.lo
 qQ:X.next+1≤H2.next
 be2:∀ y,y<b→H2.objs.get y=X.objs.get y
 own:dK b 2 H3 s3 (out.length+1) ((out.take j++x::out.drop j).flatMap b9)
 gr:Grown b X H3
theorem zgT{b:Nat}{X:Heap}{out:List Span}(x:Span){j q:Nat}{gq:Option (Nat×Nat)}(hb:b≤X.next)(aj:X.lo≤b)(hq:q<X.next)(aG:X.objs.get q=some (.row (out.flatMap b9) gq true))(hj:j≤out.length)(cg:out.length≤1000):∃ s1 H1 H2 s3 H3,zgS b X out x j q gq s1 H1 H2 s3 H3:=by
 have g0:Grown b X (X.newRow []):=NG (fx _) hb
 have rS:dK b 2 (X.newRow []) (.slice (some ⟨X.next,0,none⟩) 0 0) 0 []:=⟨rfl,.inr ⟨X.next,rfl,hb,by simp(disch:=omega)only[aA,aM,aB,aJ,aH,aI,aN,aO,aR,aP,aL,aE,aK,au,sl];omega,.inl (by simp(disch:=omega)only[aA,aM,aB,aJ,aH,aI,aN,aO,aR,aP,aL,aE,aK,au,sl,cB])⟩⟩
 obtain⟨s1,H1,a1,o1,g1⟩:=GS (bytes:=16) (k:=j) (new:=(out.take j).flatMap b9) rS (by simp(disch:=omega)only[aA,aM,aB,aJ,aH,aI,aN,aO,aR,aP,aL,aE,aK,au,sl];omega) (by simp(disch:=omega)only[aA,aM,aB,aJ,aH,aI,aN,aO,aR,aP,aL,aE,aK,au,sl];omega) (by rw[sS,wU,waS hj]) (Jj _) (rq (by omega))
 have Jk:=g0.trans g1
 have n1:=g1.ag
 rw[aB]at n1
 have l1:=Jk.lo
 have gn:Grown b H1 (H1.newRow [.int .i64 x.ae,.int .i64 x.size]):=NG (fx _) (by omega)
 obtain⟨H2,a2,o2,g2,n2⟩:=vO (bytes:=16) (k:=1) (new:=[.int .i64 x.ae,.int .i64 x.size]) (o1.same (fx [.int .i64 x.ae,.int .i64 x.size])) (by simp(disch:=omega)only[aA,aM,aB,aJ,aH,aI,aN,aO,aR,aP,aL,aE,aK,au,sl];omega) (by simp(disch:=omega)only[aA,aM,aB,aJ,aH,aI,aN,aO,aR,aP,aL,aE,aK,au,sl];omega) (by omega) rfl rfl (rq (by omega))
 have EE:=(Jk.trans gn).trans g2
 have l2:=EE.lo
 have n2':=(gn.trans g2).ag
 rw[aB]at a2 o2
 rw[wau]at a2 o2
 obtain⟨s3,H3,a3,o3,g3⟩:=GS (bytes:=16) (k:=out.length-j) (new:=(out.drop j).flatMap b9) o2 (by omega) (by omega) (by rw[sS,wbe]) (Jj _) (rq (by omega))
 obtain⟨t2,hr⟩:=EE.cells q _ _ _ hq aG
 refine⟨s1,H1,H2,s3,H3,a1,a2,a3,⟨t2,hr⟩,l1,n1,fun y hy=>(Jk.below y hy).1,l2,by omega,fun y hy=>(EE.below y hy).1,?_,EE.trans g3⟩
 have e:j+1+(out.length-j)=out.length+1:=by omega
 rw[e,wL]at o3
 rw[wbd,wbm]
 have e2:(out.take j).flatMap b9++[Value.int .i64 x.ae,Value.int .i64 x.size]++(out.drop j).flatMap b9=(out.take j).flatMap b9++(b9 x++(out.drop j).flatMap b9):=by rw[waP];rfl
 rw[←e2]
 exact o3
theorem zgU(H:Heap)(aj:H.lo≤H.next)(v:Value)(l:List Span)(hv:aZ bD 2 H v l)(hl:l.length≤1000):af E (aC 260) [v] H fun r H'=>(dK H.next 2 H' r (lJ l).length ((lJ l).flatMap b9))∧aq H H':=by
 obtain⟨⟨a,ca,rfl,⟨_,jP⟩,bJ⟩, -⟩:=hv
 refine aQ Tryz.f260 ?_
 simp only[Tryz.f260]
 simp(disch:=omega)only[↓aa,ab,simprocAttr,sa, *]
 refine bC H [0,3,4] (fun T1 H1 u1 k1 n1 l1 g1=>?_) aw
 try simp(disch:=omega)only[sm,sl]at n1 l1 g1
 simp only[sq,simprocAttr]at u1
 refine bt kq (fun nn T X=>∃ (i:Nat) (v:Value) (out:List Span),nn=l.length-i∧(T.get 3=some (v)∧T.get 4=some (.int .i64 i))∧(T.get 0=T1.get 0)∧True∧True∧(i≤l.length∧out=lJ (l.take i)∧out.length=i∧dK H.next 2 X v i (out.flatMap b9)∧aq H X∧(i=0→v= .slice none 0 0))) ?_ ?_
 ·refine⟨_,0,_,.nil,rfl,?_,?_,trivial,trivial,wJ _,rfl,rfl,⟨rfl,.inl ⟨rfl,rfl⟩⟩,aF,fun _=>rfl⟩<;>exact ay
 rintro nn fk X1 ⟨i,vo,out,rfl,m1,w1,_,_,hi,hE,gh,hO,hS,vS⟩ Qs hQ aD ai
 have kX:=hS.ko
 have EA:=hS.lo
 have EB:=hS.ag
 by_cases hlt:i<l.length
 ·obtain⟨r,o,cells,gg,tt,part,rfl,hr,aG,a8,rfl⟩:=bJ i l[i] (by simp)
  have a1:=bI hlt
  have e1:=kX.objs r hr
  have bz:gE out l[i]=lJ (l.take (i+1)):=by rw[hE,lJ,lJ,wR,wj hlt,List.foldl_append];rfl
  generalize l[i]=x at a8 bz
  obtain⟨c1,c2⟩:=qI a8
  clear hE
  have hO0:=hO
  obtain⟨tX,eO⟩:=hO
  rcases eO with⟨rfl,h0⟩|⟨q,rfl,hq1,Ik,EF⟩
  ·subst h0
   have rS:out=[]:=wac gh
   subst rS
   repeat'(first|(apply ao<;>intro)|((with_reducible show Qs _ _ _ _ _);refine ai _ _ _ _ ?_)|simp(disch:=omega)only[↓aa,ab,simprocAttr,sa, *])
   all_goals try omega
   have fO:=hQ
   refine bC X1 [0,3,4,5] (fun T2 H2 u2 j2 n2 l2 g2=>?_) aw
   try simp(disch:=omega)only[sm,sl]at n2 l2 g2
   simp only[sq,simprocAttr]at u2
   refine bt kq (fun nn T X=>nn=0∧(T.get 5=some (.int .i64 0))∧(T.get 0=T2.get 0∧T.get 3=T2.get 3∧T.get 4=T2.get 4)∧True∧True∧(Ko H2 X∧X.lo=H2.lo)) ?_ ?_
   ·refine⟨_,rfl,?_,?_,trivial,trivial,Ko.refl _,rfl⟩<;>exact ay
   rintro nn vX X2 ⟨rfl,m2,w2,_,_,kY,lY⟩ Qs hQ aD ai
   have gA:=j2.trans kY
   have e2:=gA.objs r (by omega)
   obtain⟨H3,xt,mD,rj,yV⟩:=vO (size:=2) (bytes:=16) (k:=1) (new:=[.int .i64 x.ae,.int .i64 x.size]) (H:=(X2.newRow []).newRow [.int .i64 x.ae,.int .i64 x.size]) (s:= .slice (some ⟨X2.next,0,none⟩) 0 0) (n:=0) (cs:=[]) (b:=H.next) ⟨rfl,.inr ⟨X2.next,rfl,by have:=gA.ag;omega,by simp(disch:=omega)only[aA,aM,aB,aJ,aH,aI,aN,aO,aR,aP,aL,aE,aK,au,sl];omega,.inl (by simp(disch:=omega)only[aA,aM,aB,aJ,aH,aI,aN,aO,aR,aP,aL,aE,aK,au,sl,cB])⟩⟩ (by have:=gA.ag;simp(disch:=omega)only[aA,aM,aB,aJ,aH,aI,aN,aO,aR,aP,aL,aE,aK,au,sl];omega) (by simp(disch:=omega)only[aA,aM,aB,aJ,aH,aI,aN,aO,aR,aP,aL,aE,aK,au,sl];omega) (by omega) rfl rfl (by decide)
   have HQ:=gA.ag
   rw[wb2,waX]at a8
   have z1:=fun(X:Heap) (r n:Nat)=>zgP 2 16 X r n []
   repeat'(first|refine az 6 [Fx,Fx,Fx,Fx,Fx,Fx,Fx,Fx,Fx,Fx,Fx,Fx,Fx,Fx,Fx,Fx,Fx,Fx,Fx,Fx,Fx,Fx,Fx,Fx,Fx,Fx,Fx,Fx,Fx,Fx,Fx,Fx,Fx,Fx,Fx,Fx,Fx,Fx,Fx,Fx,Fx,Fx,Fx,Fx] ?_|((with_reducible show Qs _ _ _ _ _);refine ai _ _ _ _ ?_)|simp(disch:=omega)only[↓aa,ab,simprocAttr,sa,cC,eF,nF,zgQ,zgR,NI, *])
   all_goals try omega
   have hQ:=fO
   have qc:aq H X2:=hS.trans (gA.same (by omega))
   have s3:aq H H3:=rj.same (by first|exact(qc.newRow _).newRow _) (wy _)
   rw[aB,aB]at mD
   have mE:dK H.next 2 H3 (.slice (some ⟨X2.next+1+1,0,none⟩) 1 1) (0+1) ([x].flatMap b9):=mD
   refine hQ _ _ _ ?_ ⟨0+1,_,gE .nil x,rfl,?_,?_,trivial,trivial,by omega,bz,By _ _,mE,s3,fun h=>by omega⟩<;>exact ay
  ·have PA:¬ i=0:=by
    intro e
    have:=vS e
    simp at this
   clear vS
   obtain⟨av',cv,ev, -,hvo⟩:SL bD 2 X1 (.slice (some ⟨q,0,none⟩) i i) out:=hO0.reads gh (by omega) (v7 _ _)
   simp only[waq]at ev
   obtain⟨rfl, -,rfl⟩:=ev
   have lF:=sS out
   obtain⟨gq,EF,Jl⟩:∃ gq,X1.objs.get q=some (.row (out.flatMap b9) gq true)∧(gq=none∨∃ g,gq=some (g,2)):=by
    rcases EF with h|⟨g,aS,h,_⟩
    ·exact⟨none,h,.inl rfl⟩
    ·exact⟨_,h,.inr ⟨g,rfl⟩⟩
   ·skip
    repeat'(first|(apply ao<;>intro)|((with_reducible show Qs _ _ _ _ _);refine ai _ _ _ _ ?_)|simp(disch:=omega)only[↓aa,ab,simprocAttr,sa, *])
    all_goals try omega
    have fO:=hQ
    refine bC X1 [0,3,4,5] (fun T2 H2 u2 j2 n2 l2 g2=>?_) aw
    try simp(disch:=omega)only[sm,sl]at n2 l2 g2
    simp only[sq,simprocAttr]at u2
    refine bt kq (fun nn T X=>∃ (j:Nat),nn=j+1∧(T.get 5=some (.int .i64 j))∧(T.get 0=T2.get 0∧T.get 3=T2.get 3∧T.get 4=T2.get 4)∧True∧True∧(j≤i∧mB x out i=mB x out j∧Ko H2 X∧X.lo=H2.lo)) ?_ ?_
    ·refine⟨_,i,rfl,?_,?_,trivial,trivial,wy _,rfl,Ko.refl _,rfl⟩<;>exact ay
    rintro nn vX X2 ⟨j,rfl,m2,w2,_,_,hj,hP,kY,lY⟩ Qs hQ aD ai
    have gA:=j2.trans kY
    have e2:=gA.objs r (by omega)
    have e4:=gA.keeps Ik EF
    have HQ:=gA.ag
    have qc:aq H X2:=hS.trans (gA.same (by omega))
    obtain⟨s1,Y1,Y2,s3,Y3,ap⟩:=zgT (b:=H.next) (X:=X2) (out:=out) x (j:=j) (by omega) (by omega) (by omega) e4 (by omega) (by omega)
    obtain⟨p1,p2,p3,⟨t2,p4⟩,p5,p6,p7,p8,p9,p10,xu,Jm⟩:=ap
    have b1:=(p7 r hr).trans e2
    have b2:=(p10 r hr).trans e2
    have w1:cut (out.flatMap b9) 0 (j*2)=some ((out.take j).flatMap b9):=by rw[dB,wF (by omega),waZ,zgN]
    have w2:cut (out.flatMap b9) (j*2) ((i-j)*2)=some ((out.drop j).flatMap b9):=by rw[dB,wF (by omega),zgO,wZ (by rw[sS,wbe];omega)]
    rw[gh]at p3 xu
    have w3:cut (out.flatMap b9) (if i=j then 0 else j*2) ((i-j)*2)=some ((out.drop j).flatMap b9):=by
     by_cases e:i=j
     ·subst e
      rw[wF rfl,wbS,wbs (by omega),dB,wF (by omega)]
      rfl
     ·rw[wI e];exact w2
    obtain⟨off,sB,w4⟩:∃ off,(∀t,oZ 2 (some (.row (out.flatMap b9) gq t)) q 0 (j,i,i) false=some (.slice (some ⟨q,off,none⟩) (i-j) (i-j)))∧cut (out.flatMap b9) off ((i-j)*2)=some ((out.drop j).flatMap b9):=by
     rcases Jl with rfl|⟨g,rfl⟩
     ·exact⟨_,fun t=>zC ..,by rw[wau];exact w3⟩
     ·exact⟨_,fun t=>zD ..,by rw[wau];exact w2⟩
    have sA:oZ 2 (some (.row (out.flatMap b9) gq true)) q 0 (0,j,i) false=some (.slice (some ⟨q,0,none⟩) j i):=by
     rcases Jl with rfl|⟨g,rfl⟩
     ·rw[zC,wI PA];rfl
     ·rw[zD];rfl
    clear w2 w3 Jl
    by_cases h0:j=0
    ·have EG:mB x out i=j:=by rw[hP,h0];rfl
     have d0:decide ((0:Int)<(j:Int))=false:=wx (by omega)
     clear h0 hP
     repeat'(first|refine az 6 [Fx,Fx,Fx,Fx,Fx,Fx,Fx,Fx,Fx,Fx,Fx,Fx,Fx,Fx,Fx,Fx,Fx,Fx,Fx,Fx,Fx,Fx,Fx,Fx,Fx,Fx,Fx,Fx,Fx,Fx,Fx,Fx,Fx,Fx,Fx,Fx,Fx,Fx,Fx,Fx,Fx,Fx,Fx,Fx] ?_|((with_reducible show Qs _ _ _ _ _);refine ai _ _ _ _ ?_)|simp(disch:=omega)only[↓aa,ab,simprocAttr,sa,cC,eF,nF,Nat.sub_zero, *])
     all_goals try omega
     have hQ:=fO
     have Bz:aq H Y3:=Jm.same qc (wy _)
     have cn:gE out x=out.take j++x::out.drop j:=by unfold gE;rw[gh,EG]
     rw[←cn]at xu
     refine hQ _ _ _ ?_ ⟨i+1,s3,gE out x,rfl,?_,?_,trivial,trivial,by omega,bz,by rw[By,gh],xu,Bz,fun h=>by omega⟩<;>exact ay
    ·obtain⟨r3,o3,Is,gg3,tt3,It,er,rU,pO,pP,rfl⟩:=hvo (j-1) (out[j-1]'(by omega)) (by simp)
     cases er
     rw[EF]at pO
     cases pO
     have a3:=bI (show j-1<i by omega)
     obtain⟨c3,c4⟩:=qI pP
     rw[wau]at c3 c4
     have d0:decide ((0:Int)<(j:Int))=true:=wz (by omega)
     have d1:(j:Int)-1=((j-1:Nat):Int):=by omega
     have y0:mB x out j=if rf x (out[j-1]'(by omega))then mB x out (j-1)else j:=by
      obtain⟨k,rfl⟩:∃ k,j=k+1:=⟨j-1,by omega⟩
      rw[mB,wav,wj (by omega)]
      rfl
     clear pP
     generalize (out[j-1]'(by omega))=y at y0 c3 c4
     cases jM:rf x y with
     |true=>
      rw[jM,wF rfl,←hP]at y0
      unfold rf at jM
      have jM:=wap jM
      clear hP
      repeat'(first|(apply ao<;>intro)|apply bQ|refine az 6 [Fx,Fx,Fx,Fx,Fx,Fx,Fx,Fx,Fx,Fx,Fx,Fx,Fx,Fx,Fx,Fx,Fx,Fx,Fx,Fx,Fx,Fx,Fx,Fx,Fx,Fx,Fx,Fx,Fx,Fx,Fx,Fx,Fx,Fx,Fx,Fx,Fx,Fx,Fx,Fx,Fx,Fx,Fx,Fx] ?_|((with_reducible show Qs _ _ _ _ _);refine ai _ _ _ _ ?_)|simp(disch:=omega)only[↓aa,ab,simprocAttr,sa, *])
      all_goals try omega
      all_goals refine hQ _ _ _ ?_ ⟨j-1,rfl,?_,?_,trivial,trivial,by omega,y0,kY,lY⟩<;>exact ay
     |false=>
      rw[jM,wI (by simp),←hP]at y0
      have EG:mB x out i=j:=y0
      unfold rf at jM
      have jM:=wbI jM
      have d3:decide (x.ae<y.ae)=false:=wx (by omega)
      have d4:decide (x.ae=y.ae)=true→decide (x.size<y.size)=false:=fun h=>wx (by have:=wap h;omega)
      clear hP y0 jM
      cases mF:decide (x.ae=y.ae)with
      |true=>
       have d5:=d4 mF
       clear d4
       repeat'(first|refine az 6 [Fx,Fx,Fx,Fx,Fx,Fx,Fx,Fx,Fx,Fx,Fx,Fx,Fx,Fx,Fx,Fx,Fx,Fx,Fx,Fx,Fx,Fx,Fx,Fx,Fx,Fx,Fx,Fx,Fx,Fx,Fx,Fx,Fx,Fx,Fx,Fx,Fx,Fx,Fx,Fx,Fx,Fx,Fx,Fx] ?_|((with_reducible show Qs _ _ _ _ _);refine ai _ _ _ _ ?_)|simp(disch:=omega)only[↓aa,ab,simprocAttr,sa,cC,eF,nF,Nat.sub_zero, *])
       all_goals try omega
       have hQ:=fO
       have Bz:aq H Y3:=Jm.same qc (wy _)
       have cn:gE out x=out.take j++x::out.drop j:=by unfold gE;rw[gh,EG]
       rw[←cn]at xu
       refine hQ _ _ _ ?_ ⟨i+1,s3,gE out x,rfl,?_,?_,trivial,trivial,by omega,bz,by rw[By,gh],xu,Bz,fun h=>by omega⟩<;>exact ay
      |false=>
       clear d4
       repeat'(first|refine az 6 [Fx,Fx,Fx,Fx,Fx,Fx,Fx,Fx,Fx,Fx,Fx,Fx,Fx,Fx,Fx,Fx,Fx,Fx,Fx,Fx,Fx,Fx,Fx,Fx,Fx,Fx,Fx,Fx,Fx,Fx,Fx,Fx,Fx,Fx,Fx,Fx,Fx,Fx,Fx,Fx,Fx,Fx,Fx,Fx] ?_|((with_reducible show Qs _ _ _ _ _);refine ai _ _ _ _ ?_)|simp(disch:=omega)only[↓aa,ab,simprocAttr,sa,cC,eF,nF,Nat.sub_zero, *])
       all_goals try omega
       have hQ:=fO
       have Bz:aq H Y3:=Jm.same qc (wy _)
       have cn:gE out x=out.take j++x::out.drop j:=by unfold gE;rw[gh,EG]
       rw[←cn]at xu
       refine hQ _ _ _ ?_ ⟨i+1,s3,gE out x,rfl,?_,?_,trivial,trivial,by omega,bz,by rw[By,gh],xu,Bz,fun h=>by omega⟩<;>exact ay
 ·repeat'(first|(apply ao<;>intro)|((with_reducible show Qs _ _ _ _ _);refine ai _ _ _ _ ?_)|simp(disch:=omega)only[↓aa,ab,simprocAttr,sa, *])
  all_goals try omega
  have ei:i=l.length:=by omega
  subst ei
  rw[waj]at hE
  subst hE
  rw[gh]
  exact hO
structure ru(b:Nat)(H H':Heap):Prop where
 lo:H'.lo=H.lo
 ag:H.next≤H'.next
 below:∀ x,x<b→H'.objs.get x=H.objs.get x∧H'.grps.get x=H.grps.get x
theorem ru.trans{b:Nat}{H X Y:Heap}(h:ru b H X)(h':ru b X Y):ru b H Y:=⟨h'.lo.trans h.lo,wK h.ag h'.ag,fun x hx=>⟨(h'.below x hx).1.trans (h.below x hx).1,(h'.below x hx).2.trans (h.below x hx).2⟩⟩
theorem aq.EH{b:Nat}{H X:Heap}(h:aq H X)(hb:b≤H.next):ru b H X:=⟨h.lo,h.ag,fun x hx=>⟨h.objs x (by omega),h.grps x (by omega)⟩⟩
theorem eA.EH{b g:Nat}{H X:Heap}(h:eA b g H X):ru b H X:=⟨h.lo,h.ag,h.below⟩
theorem ru.same{H0 H X:Heap}(h:ru H0.next H X)(s:aq H0 H):aq H0 X:=⟨h.lo.trans s.lo,wK s.ag h.ag,fun x hx=>(h.below x hx).1.trans (s.objs x hx),fun x hx=>(h.below x hx).2.trans (s.grps x hx)⟩
theorem zgV{out:List Span}{y:Span}(h:out.getLast? =some y):∃ m,out.length=m+1∧out[m]? =some y∧out=out.take m++[y]∧out.dropLast=out.take m:=by
 obtain⟨l,rfl⟩:=List.getLast?_eq_some_iff.1 h
 exact⟨l.length,by simp,by simp,by simp,by simp⟩
theorem zgW(l:List Span)(y:Span)(s:Int):over [Value.int .i64 s] (l.length*2+1) ((l++[y]).flatMap b9)=(l++[(⟨y.ae,s⟩:Span)]).flatMap b9:=by
 have h1:=sS l
 rw[KY _ _ _ (by rw[sS,wN,wbJ];omega),wbd,wbd,List.set_append_right _ _ (by omega),h1,show l.length*2+1-l.length*2=1 by omega]
 rfl
theorem zgX(H:Heap)(aj:H.lo≤H.next){b:Nat}{v:Value}{out:List Span}{go:Option Nat}(h:OS b 2 H v out.length (out.flatMap b9) go)(hb:b≤H.next)(ye:H.lo≤b)(f t:Int)(hn:out.length≤10000)(hf:0≤f∧f≤1099511627776∧0≤t∧t≤1099511627776)(hs:∀ y∈out,0≤y.ae∧y.ae≤1099511627776∧ -1099511627776≤y.size∧y.size≤1099511627776):
  af E (aC 236) [v,.int .i64 f,.int .i64 t] H fun r H'=>∃ Jn,OS b 2 H' r (kL out f t).length ((kL out f t).flatMap b9) Jn∧ru b H H':=by
 have di:=(h.same (fx [.int .i64 f,.int .i64 (t-f)])).app (bytes:=16) (part:=[.int .i64 f,.int .i64 (t-f)]) (by simp(disch:=omega)only[aA,aM,aB,aJ,aH,aI,aN,aO,aR,aP,aL,aE,aK,au,sl];omega) (by simp(disch:=omega)only[aA,aM,aB,aJ,aH,aI,aN,aO,aR,aP,aL,aE,aK,au,sl];omega) rfl rfl (rq (by omega))
 obtain⟨v',H',g',ha,bG,mH,_⟩:=di
 have CE:ru b H H':=((fx _).EH hb).trans mH.EH
 have qp:OS b 2 H' v' (out++[(⟨f,t-f⟩:Span)]).length ((out++[(⟨f,t-f⟩:Span)]).flatMap b9) (some g'):=by
  rw[wN,wbJ,wbd]
  exact bG
 refine aQ Tryz.f236 ?_
 simp only[Tryz.f236]
 cases hl:out.getLast? with
 |none=>
  have e0:out=[]:=List.getLast?_eq_none_iff.1 hl
  subst e0
  have hp:kL [] f t=[⟨f,t-f⟩]:=rfl
  have hva:∃ a c,v= .slice a 0 c:=by
   cases go with
   |none=>exact⟨none,0,h.1⟩
   |some g=>obtain⟨r,cap,_,_,e,_⟩:=h;exact⟨_,_,e⟩
  obtain⟨a,c,rfl⟩:=hva
  repeat'(first|refine az 2 [Fx,Fx,Fx,Fx,Fx,Fx,Fx,Fx,Fx,Fx,Fx,Fx,Fx,Fx,Fx,Fx,Fx,Fx,Fx] ?_|simp(disch:=omega)only[↓aa,ab,simprocAttr,sa,cC,eF,nF,waA, *])
  all_goals try omega
  first|exact⟨some g',qp,CE⟩|exact⟨some g',qp⟩
 |some y=>
  obtain⟨m,hm,hy,tS,zb⟩:=zgV hl
  have Nb:=hs y (wag hy)
  cases go with
  |none=>have:=h.2.1;omega
  |some g=>
   have h0:=h
   obtain⟨r,cap,full,aS,rfl,h2,h3,h4,h5,h6,h7,h8,h9,aY,aV,bB⟩:=h
   have tX:=sS out
   have a8:=D9 out m y hy
   obtain⟨q1,q2⟩:=qI a8
   have f1:full[m*2]? =some (.int .i64 y.ae):=by rw[←q1,←h4,wcj (by omega)]
   have f2:full[m*2+1]? =some (.int .i64 y.size):=by rw[←q2,←h4,wcj (by omega)]
   have d1:((m+1:Nat):Int)-1=(m:Int):=by omega
   have a1:=bI (show m<m+1 by omega)
   by_cases ht:y.ae+y.size=f
   ·have hp:kL out f t=out.take m++[⟨y.ae,t-y.ae⟩]:=by
     unfold kL
     rw[hl]
     simp only
     rw[wF ht,zb]
    obtain⟨r',uk,H2,ev,hw,Jo,hew⟩:=h0.write (o:=m*2+1) (new:=[.int .i64 (t-y.ae)]) ye rfl (by show m*2+1+1≤_;omega)
    cases ev
    have DY:over [Value.int .i64 (t-y.ae)] (m*2+1) (out.flatMap b9)=(kL out f t).flatMap b9:=by
     have:=zgW (out.take m) y (t-y.ae)
     rw[wU,waS (by omega),←tS]at this
     rw[this,hp]
    rw[DY]at Jo
    have lf:Cp H r (m*2+1) [.int .i64 (t-y.ae)] full g 2 (some aS)=some H2:=by
     rw[←h6,←KW,←h5,←KX]
     exact hw
    have lu:(kL out f t).length=m+1:=by rw[hp,wN,wU];simp;omega
    have d2:decide (y.ae+y.size=f)=true:=wz ht
    clear tS zb hl h4 a8 q1 q2 ht
    repeat'(first|(apply ao<;>intro)|refine az 2 [Fx,Fx,Fx,Fx,Fx,Fx,Fx,Fx,Fx,Fx,Fx,Fx,Fx,Fx,Fx,Fx,Fx,Fx,Fx] ?_|simp(disch:=omega)only[↓aa,ab,simprocAttr,sa,cC,eF,nF, *])
    all_goals try omega
    have zgY:OS b 2 H2 (.slice (some ⟨r,0,none⟩) (m+1) cap) (out.take m++[(⟨y.ae,t-y.ae⟩:Span)]).length ((out.take m++[(⟨y.ae,t-y.ae⟩:Span)]).flatMap b9) (some g):=by
     rw[←hp,lu]
     rw[hm]at Jo
     exact Jo
    exact⟨some g,zgY,hew.EH⟩
   ·have hp:kL out f t=out++[⟨f,t-f⟩]:=by
     unfold kL
     rw[hl]
     simp only
     rw[wI ht]
    have d2:decide (y.ae+y.size=f)=false:=wx ht
    clear tS zb hl h4 a8 q1 q2 ht
    rw[hm]at ha
    repeat'(first|(apply ao<;>intro)|refine az 2 [Fx,Fx,Fx,Fx,Fx,Fx,Fx,Fx,Fx,Fx,Fx,Fx,Fx,Fx,Fx,Fx,Fx,Fx,Fx] ?_|simp(disch:=omega)only[↓aa,ab,simprocAttr,sa,cC,eF,nF, *])
    all_goals try omega
    first|exact⟨some g',qp,CE⟩|exact⟨some g',qp⟩
theorem Bw{α:Type}{R:Heap→List Value→α→Prop}{b z n:Nat}{H:Heap}{v:Value}{cs:List Value}{l:List α}(h:dK b z H v n cs)(hl:l.length=n)(cg:l.length≤9223372036854775807)(hR:dD R z H cs l):aZ R z H v l:=by
 refine⟨h.reads hl cg hR,fun a m c e=>?_⟩
 obtain⟨_,⟨rfl,_⟩|⟨r,rfl,h1,h2,h3⟩⟩:=h
 ·simp only[waq]at e
  exact .inl e.1.symm
 ·simp only[waq]at e
  obtain⟨rfl,_,_⟩:=e
  rcases h3 with h3|⟨g,aS,h3,_⟩
  ·exact .inr ⟨r,_,_,_,rfl,h2,h3⟩
  ·exact .inr ⟨r,_,_,_,rfl,h2,h3⟩
theorem zgZ(l:List Value):dr l 2=l++l:=by rw[iN,nF]
theorem zg0(l:List Span)(x:Span):eI (l++[x])=eI l++(if bw x then[⟨x.ae,0⟩,⟨x.ae+x.size,0⟩]else[]):=by
 simp[eI,wbd]
def uM(p:Option Int)(l:List Span):Option Int:=match l.getLast? with
 |none=>p
 |some y=>some y.ae
theorem QT(x:Span):∀ (l:List Span) (p:Option Int),eJ p (l++[x])=eJ p l++(if uM p l=some x.ae then[]else[x.ae])
 |[],p=>by
  rw[wL,eJ,eJ,eJ,waw,wL]
  rfl
 |y::l,p=>by
  have e:uM p (y::l)=uM (some y.ae) l:=by
   unfold uM
   cases l with
   |nil=>rfl
   |cons z l=>
    rw[List.getLast?_cons_cons]
    cases hz:(z::l).getLast? with
    |none=>rw[List.getLast?_eq_none_iff]at hz;cases hz
    |some w=>rfl
  rw[wat,eJ,QT x l,eJ,e,waP]
theorem mW{n:Nat}(h:n≤100000):ed 1 8 n=true:=by
 unfold ed
 rw[wP (show n*8≤10000000000 by omega),wP (show n≤1000000000 by omega)]
 rfl
theorem QU(l:List Span):(eI l).length≤l.length*2:=by
 induction l with
 |nil=>exact wy _
 |cons x l ih=>
  have:eI (x::l)=(if bw x then[⟨x.ae,0⟩,⟨x.ae+x.size,0⟩]else[])++eI l:=by simp[eI]
  rw[this,wN,wY]
  split<;>simp<;>omega
theorem QV(l:List Span):(lJ l).length=l.length:=by rw[lJ,QS];simp
theorem Jp:∀ (l:List Span) (p:Option Int),(eJ p l).length≤l.length
 |[],_=>wy _
 |x::l,p=>by
  rw[eJ,wN,wY]
  have:=Jp l (some x.ae)
  split<;>simp<;>omega
theorem zg1(H:Heap)(aj:H.lo≤H.next)(v:Value)(l:List Span)(hv:aZ bD 2 H v l)(hl:l.length≤400):af E (aC 234) [v] H fun r H'=>aZ (dd .i64) 1 H' r (pX l)∧aq H H':=by
 obtain⟨⟨a,ca,rfl,⟨_,jP⟩,bJ⟩, -⟩:=hv
 refine aQ Tryz.f234 ?_
 simp only[Tryz.f234]
 simp(disch:=omega)only[↓aa,ab,simprocAttr,sa, *]
 refine bC H [0,3,4] (fun T1 H1 u1 k1 n1 l1 g1=>?_) aw
 try simp(disch:=omega)only[sm,sl]at n1 l1 g1
 simp only[sq,simprocAttr]at u1
 refine bt kq (fun nn T X=>∃ (i:Nat) (v:Value),nn=l.length-i∧(T.get 3=some (v)∧T.get 4=some (.int .i64 i))∧(T.get 0=T1.get 0)∧True∧True∧(i≤l.length∧dK H.next 2 X v (eI (l.take i)).length ((eI (l.take i)).flatMap b9)∧aq H X)) ?_ ?_
 ·refine⟨_,0,_,rfl,?_,?_,trivial,trivial,wJ _,⟨rfl,.inl ⟨rfl,rfl⟩⟩,aF⟩<;>exact ay
 rintro nn fk X1 ⟨i,vo,rfl,m1,w1,_,_,hi,hO,hS⟩ Qs hQ aD ai
 have EA:=hS.lo
 have EB:=hS.ag
 have uT:=QU (l.take i)
 rw[wU]at uT
 by_cases hlt:i<l.length
 ·obtain⟨r,o,cells,gg,tt,part,rfl,hr,aG,a8,rfl⟩:=bJ i l[i] (by simp)
  have a1:=bI hlt
  have e1:=hS.objs r hr
  have bz:eI (l.take (i+1))=eI (l.take i)++(if bw l[i]then[⟨l[i].ae,0⟩,⟨l[i].ae+l[i].size,0⟩]else[]):=by
   rw[wR,wj hlt,wcx,zg0]
  generalize l[i]=x at a8 bz
  obtain⟨c1,c2⟩:=qI a8
  repeat'(first|(apply ao<;>intro)|((with_reducible show Qs _ _ _ _ _);refine ai _ _ _ _ ?_)|simp(disch:=omega)only[↓aa,ab,simprocAttr,sa,bn, *])
  all_goals try omega
  refine af.mono (iD _ ah x) ?_
  rintro rr Y ⟨rfl,sY⟩
  have iE:=hS.trans sY
  have kY:Ko X1 Y:=sY.ko
  have xq:=iE.lo
  have xr:=iE.ag
  have e2:=iE.keeps hr aG
  have BA:=hO.same sY
  clear sY
  by_cases hm:bw x
  ·rw[wF hm]at bz
   obtain⟨H3,xt,mD,rj,yV⟩:=vO (size:=2) (bytes:=16) (k:=2) (new:=[.int .i64 x.ae,.int .i64 0,.int .i64 (x.ae+x.size),.int .i64 0]) (BA.same (fx [.int .i64 x.ae,.int .i64 0,.int .i64 (x.ae+x.size),.int .i64 0])) (by simp(disch:=omega)only[aA,aM,aB,aJ,aH,aI,aN,aO,aR,aP,aL,aE,aK,au,sl];omega) (by simp(disch:=omega)only[aA,aM,aB,aJ,aH,aI,aN,aO,aR,aP,aL,aE,aK,au,sl];omega) (by omega) rfl rfl (rq (by omega))
   have s3:aq H H3:=rj.same (iE.newRow _) (wy _)
   have Jg:=s3.lo
   have mE:dK H.next 2 H3 (.slice (some ⟨Y.next+1,0,none⟩) ((eI (l.take i)).length+2) ((eI (l.take i)).length+2)) (eI (l.take (i+1))).length ((eI (l.take (i+1))).flatMap b9):=by
    rw[bz,wN,wbd]
    rw[aB]at mD
    exact mD
   have eE:=hm
   unfold bw at eE
   repeat'(first|refine az 6 [Fx,Fx,Fx,Fx,Fx,Fx,Fx,Fx,Fx,Fx,Fx,Fx,Fx,Fx,Fx,Fx,Fx,Fx,Fx,Fx,Fx,Fx] ?_|simp(disch:=omega)only[↓aa,ab,simprocAttr,sa,bn,cC,zgZ,wz hm, *])
   all_goals try omega
   refine hQ _ _ _ ?_ ⟨i+1,_,rfl,?_,?_,trivial,trivial,by omega,mE,s3⟩<;>exact ay
  ·rw[wI hm,waw]at bz
   rw[←bz]at BA
   simp(disch:=omega)only[↓aa,ab,simprocAttr,sa,bn,cC,wx hm, *]
   all_goals try omega
   refine hQ _ _ _ ?_ ⟨i+1,vo,rfl,?_,?_,trivial,trivial,by omega,BA,iE⟩<;>exact ay
 ·have ei:i=l.length:=by omega
  subst ei
  rw[waj]at hO uT
  repeat'(first|(apply ao<;>intro)|((with_reducible show Qs _ _ _ _ _);refine ai _ _ _ _ ?_)|simp(disch:=omega)only[↓aa,ab,simprocAttr,sa, *])
  all_goals try omega
  refine af.mono (zgU _ ah vo (eI l) (Bw hO rfl (by omega) (v7 _ _)) (by omega)) ?_
  rintro rr Y ⟨hs,sY⟩
  have iE:=hS.trans sY
  have xq:=iE.lo
  have xr:=iE.ag
  have ft:=QV (eI l)
  obtain⟨vs,nv,cv,rfl⟩:=hs.slice
  obtain⟨av',cv',ev, -,mV⟩:SL bD 2 Y (.slice vs nv cv) (lJ (eI l)):=hs.reads rfl (by omega) (v7 _ _)
  simp only[waq]at ev
  obtain⟨rfl,rfl,rfl⟩:=ev
  have jM:(lJ (eI l)).length≤800:=by omega
  have hEn:pX l=eJ none (lJ (eI l)):=rfl
  generalize lJ (eI l)=eU at mV jM hEn
  clear sY hs hO ft
  simp(disch:=omega)only[↓aa,ab,simprocAttr,sa, *]
  all_goals try omega
  refine bC Y [3,5,6] (fun T2 H2 u2 j2 n2 l2 g2=>?_) aw
  try simp(disch:=omega)only[sm,sl]at n2 l2 g2
  simp only[sq,simprocAttr]at u2
  refine bt kq (fun nn T X=>∃ (k:Nat) (w:Value),nn=eU.length-k∧(T.get 5=some (w)∧T.get 6=some (.int .i64 k))∧(T.get 3=T2.get 3)∧True∧True∧(k≤eU.length∧dK Y.next 1 X w (eJ none (eU.take k)).length ((eJ none (eU.take k)).map db)∧aq Y X)) ?_ ?_
  ·refine⟨_,0,_,rfl,?_,?_,trivial,trivial,wJ _,⟨rfl,.inl ⟨rfl,rfl⟩⟩,j2.same (by omega)⟩<;>exact ay
  rintro nn vX X2 ⟨k,w,rfl,m2,w2,_,_,hk,hO,BB⟩ Qs hQ aD ai
  have QW:=iE.trans BB
  have zis:=BB.ag
  have zit:=QW.lo
  have ziu:=QW.ag
  have zb:=Jp (eU.take k) none
  rw[wU]at zb
  by_cases ma:k<eU.length
  ·obtain⟨r,o,cells,gg,tt,part,rfl,hr,aG,a8,rfl⟩:=mV k eU[k] (by simp)
   have a1:=bI ma
   have e1:=BB.objs r hr
   have bz:eJ none (eU.take (k+1))=eJ none (eU.take k)++(if uM none (eU.take k)=some (eU[k]).ae then[]else[(eU[k]).ae]):=by
    rw[wR,wj ma,wcx,QT]
   obtain⟨c1,c2⟩:=qI a8
   clear a8
   have Cl:∀ (lL:0<k),uM none (eU.take k)=some (eU[k-1]'(by omega)).ae:=fun lL=>by
    unfold uM
    rw[List.getLast?_eq_getElem?,wU,waS (by omega),wcj (by omega),wj (by omega)]
   have iq:k=0→uM none (eU.take k)=none:=fun e=>by subst e;rfl
   have zd:∀ (lL:0<k),∃nq g2 t2,nq[o+(k-1)*2]? =some (.int .i64 (eU[k-1]'(by omega)).ae)∧Y.objs.get r=some (.row nq g2 t2):=fun lL=>by
    obtain⟨r',o',nq,g2,t2,part,er,ct,kF,si,rfl⟩:=mV (k-1) (eU[k-1]'(by omega)) (wj (by omega))
    cases er
    exact⟨nq,g2,t2,(qI si).1,kF⟩
   generalize (eU[k]).ae=xa at bz c1
   obtain⟨H3,xt,mD,rj,yV⟩:=vO (size:=1) (bytes:=8) (k:=1) (new:=[.int .i64 xa]) (hO.same (fx [.int .i64 xa])) (by simp(disch:=omega)only[aA,aM,aB,aJ,aH,aI,aN,aO,aR,aP,aL,aE,aK,au,sl];omega) (by simp(disch:=omega)only[aA,aM,aB,aJ,aH,aI,aN,aO,aR,aP,aL,aE,aK,au,sl];omega) (by omega) rfl rfl (mW (by omega))
   have Jq:aq Y H3:=rj.same (BB.newRow _) (wy _)
   have s3:aq H H3:=iE.trans Jq
   have Jg:=s3.lo
   rw[aB]at mD xt
   by_cases lL:k=0
   ·rw[iq lL,wI (by simp)]at bz
    have mE:dK Y.next 1 H3 (.slice (some ⟨X2.next+1,0,none⟩) ((eJ none (eU.take k)).length+1) ((eJ none (eU.take k)).length+1)) (eJ none (eU.take (k+1))).length ((eJ none (eU.take (k+1))).map db):=by
     rw[bz,wN,waT]
     exact mD
    have d0:decide ((k:Int)=0)=true:=wz (by omega)
    clear Cl zd iq bz lL
    repeat'(first|(apply ao<;>intro)|refine az 12 [Fx,Fx,Fx,Fx,Fx,Fx,Fx,Fx,Fx,Fx,Fx,Fx,Fx,Fx,Fx,Fx] ?_|((with_reducible show Qs _ _ _ _ _);refine ai _ _ _ _ ?_)|simp(disch:=omega)only[↓aa,ab,simprocAttr,sa,cC,nF, *])
    all_goals try omega
    refine hQ _ _ _ ?_ ⟨k+1,_,rfl,?_,?_,trivial,trivial,by omega,mE,Jq⟩<;>exact ay
   ·obtain⟨nq,g2,t2,q1,q2⟩:=zd (by omega)
    rw[aG]at q2
    cases q2
    rw[Cl (by omega)]at bz
    generalize (eU[k-1]'(by omega)).ae=ya at bz q1
    have a2:=bI (show k-1<eU.length by omega)
    have d0:decide ((k:Int)=0)=false:=wx (by omega)
    have d1:(k:Int)-1=((k-1:Nat):Int):=by omega
    clear Cl iq zd lL
    by_cases mF:xa=ya
    ·rw[wF (by rw[mF]),waw]at bz
     rw[←bz]at hO
     have d2:decide (xa=ya)=true:=wz mF
     clear mF bz
     repeat'(first|(apply ao<;>intro)|refine az 12 [Fx,Fx,Fx,Fx,Fx,Fx,Fx,Fx,Fx,Fx,Fx,Fx,Fx,Fx,Fx,Fx] ?_|((with_reducible show Qs _ _ _ _ _);refine ai _ _ _ _ ?_)|simp(disch:=omega)only[↓aa,ab,simprocAttr,sa,cC,nF, *])
     all_goals try omega
     refine hQ _ _ _ ?_ ⟨k+1,w,rfl,?_,?_,trivial,trivial,by omega,hO,BB⟩<;>exact ay
    ·rw[wI (by simp only[wi];exact fun e=>mF e.symm)]at bz
     have mE:dK Y.next 1 H3 (.slice (some ⟨X2.next+1,0,none⟩) ((eJ none (eU.take k)).length+1) ((eJ none (eU.take k)).length+1)) (eJ none (eU.take (k+1))).length ((eJ none (eU.take (k+1))).map db):=by
      rw[bz,wN,waT]
      exact mD
     have d2:decide (xa=ya)=false:=wx mF
     clear mF bz
     repeat'(first|(apply ao<;>intro)|refine az 12 [Fx,Fx,Fx,Fx,Fx,Fx,Fx,Fx,Fx,Fx,Fx,Fx,Fx,Fx,Fx,Fx] ?_|((with_reducible show Qs _ _ _ _ _);refine ai _ _ _ _ ?_)|simp(disch:=omega)only[↓aa,ab,simprocAttr,sa,cC,nF, *])
     all_goals try omega
     refine hQ _ _ _ ?_ ⟨k+1,_,rfl,?_,?_,trivial,trivial,by omega,mE,Jq⟩<;>exact ay
  ·have ek:k=eU.length:=by omega
   subst ek
   rw[waj]at hO zb
   have hR:=Bw hO rfl (by omega) (D8 X2 _)
   repeat'(first|(apply ao<;>intro)|apply bQ|refine az 12 [Fx,Fx,Fx,Fx,Fx,Fx,Fx,Fx,Fx,Fx,Fx,Fx,Fx,Fx,Fx,Fx] ?_|((with_reducible show Qs _ _ _ _ _);refine ai _ _ _ _ ?_)|simp(disch:=omega)only[↓aa,ab,simprocAttr,sa, *])
   all_goals try omega
theorem zg2{out:List Span}{x y:Span}(h:y∈gE out x):y∈out∨y=x:=by
 unfold gE at h
 rcases waI.1 h with h|h
 ·exact .inl (List.mem_of_mem_take h)
 ·rcases wad.1 h with h|h
  ·exact .inr h
  ·exact .inl (List.mem_of_mem_drop h)
theorem QX:∀ (l out:List Span) {y:Span},y∈l.foldl gE out→y∈out∨y∈l
 |[],_,_,h=> .inl h
 |x::l,out,y,h=>by
  rcases QX l _ h with h|h
  ·rcases zg2 h with h|h
   ·exact .inl h
   ·exact .inr (by rw[h];exact wW ..)
  ·exact .inr (wM _ h)
theorem QY:∀ (l:List Span) (p:Option Int) {a:Int},a∈eJ p l→∃ y∈l,y.ae=a
 |[],_,_,h=>by cases h
 |x::l,p,a,h=>by
  rw[eJ]at h
  rcases waI.1 h with h|h
  ·split at h
   ·cases h
   ·rw[waG]at h;exact⟨x,wW ..,h.symm⟩
  ·obtain⟨y,h1,h2⟩:=QY l _ h
   exact⟨y,wM _ h1,h2⟩
theorem zg3{l:List Span}{a:Int}(h:a∈pX l):0≤a∧a≤1099511627776:=by
 obtain⟨y,h1,rfl⟩:=QY _ _ h
 rcases QX _ _ h1 with h1|h1
 ·cases h1
 ·obtain⟨x,_,h2⟩:=List.mem_flatMap.1 h1
  split at h2
  ·rename_i hm
   unfold bw at hm
   simp only[wad,wbb,wck]at h2
   rcases h2 with rfl|rfl<;>simp only<;>omega
  ·cases h2
theorem zg4(l:List Span):(pX l).length≤l.length*2:=by
 have h1:=Jp (lJ (eI l)) none
 have h2:=QV (eI l)
 have h3:=QU l
 unfold pX
 omega
def ze(out:List Span):Prop:=∀ y∈out,0≤y.ae∧y.ae≤1099511627776∧ -1099511627776≤y.size∧y.size≤1099511627776
theorem zg5:ze []:=fun y hy=>(by cases hy)
theorem ze.put{out:List Span}{f t:Int}(h:ze out)(hf:0≤f∧f≤1099511627776∧0≤t∧t≤1099511627776):ze (kL out f t):=by
 have hn:ze (out++[(⟨f,t-f⟩:Span)]):=fun y hy=>by
  rcases waI.1 hy with hy|hy
  ·exact h y hy
  ·rw[waG]at hy;subst hy;simp only;omega
 unfold kL
 split
 ·rename_i y hl
  split
  ·intro z hz
   rcases waI.1 hz with hz|hz
   ·exact h z (List.dropLast_subset _ hz)
   ·rw[waG]at hz
    subst hz
    have:=h y (List.mem_of_getLast? hl)
    simp only
    omega
  ·exact hn
 ·exact hn
theorem zg6(out:List Span)(f t:Int):(kL out f t).length≤out.length+1:=by
 unfold kL
 split
 ·split
  ·simp only[wN,List.length_dropLast,wbJ];omega
  ·simp
 ·simp
theorem zg7{H:Heap}{cs:List Value}{l:List Span}(h:dD bD 2 H cs l):cs=l.flatMap b9:=by
 obtain⟨h1,h2⟩:=h
 refine waR fun j=>?_
 have hl:=sS l
 by_cases hj:j<l.length*2
 ·obtain⟨part,hp,dp⟩:=h2 (j/2) l[j/2] (wj (by omega))
  have hq:=D9 l (j/2) l[j/2] (wj (by omega))
  rw[dB,wF (by omega)]at hp hq
  have e:=(waH hp).trans (dp.trans (waH hq).symm)
  have e2:=congrArg (fun t:List Value=>t[j%2]?) e
  simp only[wab,wae,wF (show j%2<2 by omega),show j/2*2+j%2=j by omega]at e2
  exact e2
 ·rw[wak (by omega),wak (by omega)]
theorem zg8(H:Heap)(aj:H.lo≤H.next)(all:Span)(v:Value)(l:List Span)(hv:aZ bD 2 H v l)(hl:l.length≤300):af E (aC 188) [bn all,v] H fun r H'=>aZ bD 2 H' r (pY all l)∧aq H H':=by
 have iP:=hv
 have sN:aq H ((H.newRow [.int .i64 all.ae,.int .i64 all.size]).newRow [.int .i64 all.ae,.int .i64 all.size]):=(fx _).newRow _
 obtain⟨a,c,cs,rfl,oO,sf⟩:=(hv.1.mono bD.mono sN).Av (hv.2.same sN)
 have ib:=zg7 sf
 subst ib
 have rS:dK H.next 2 ((H.newRow [.int .i64 all.ae,.int .i64 all.size]).newRow [.int .i64 all.ae,.int .i64 all.size]) (.slice (some ⟨H.next+1,0,none⟩) 1 1) 1 [.int .i64 all.ae,.int .i64 all.size]:=⟨rfl,.inr ⟨H.next+1,rfl,by omega,by simp(disch:=omega)only[aA,aM,aB,aJ,aH,aI,aN,aO,aR,aP,aL,aE,aK,au,sl];omega,.inl (by simp(disch:=omega)only[aA,aM,aB,aJ,aH,aI,aN,aO,aR,aP,aL,aE,aK,au,sl,cB])⟩⟩
 obtain⟨s1,Y,di,nE,zZ⟩:=GS (bytes:=16) (k:=l.length) (new:=l.flatMap b9) rS (by simp(disch:=omega)only[aA,aM,aB,aJ,aH,aI,aN,aO,aR,aP,aL,aE,aK,au,sl];omega) (by simp(disch:=omega)only[aA,aM,aB,aJ,aH,aI,aN,aO,aR,aP,aL,aE,aK,au,sl];omega) (sS l) (Jj l) (rq (by omega))
 have sY:aq H Y:=zZ.same sN (wy _)
 have hbY:=zZ.alone H.next [.int .i64 all.ae,.int .i64 all.size] true (by simp(disch:=omega)only[aA,aM,aB,aJ,aH,aI,aN,aO,aR,aP,aL,aE,aK,au,sl];omega) (by simp(disch:=omega)only[aA,aM,aB,aJ,aH,aI,aN,aO,aR,aP,aL,aE,aK,au,sl,cB])
 have xq:=sY.lo
 have xr:=zZ.ag
 rw[aB,aB]at xr
 have hE1:aZ bD 2 Y s1 (all::l):=Bw nE (by simp;omega) (by simp;omega) (v7 Y (all::l))
 refine aQ Tryz.f188 ?_
 simp only[Tryz.f188]
 simp only[bn]
 simp(disch:=omega)only[↓aa,ab,simprocAttr,sa,nF,cC, *]
 all_goals try omega
 refine af.mono (zg1 _ ah s1 (all::l) (aZ.ko bD.mono hE1 aw) (by simp;omega)) ?_
 rintro rr Z ⟨hs,sZ⟩
 have kZ:Ko Y Z:=Ko.call aw sZ
 have loZ:=sZ.lo
 have nxZ:=sZ.ag
 have EI:aq H Z:=sY.trans (kZ.same (by first|omega|(simp(disch:=omega)only[aA,aM,aB,aJ,aH,aI,aN,aO,aR,aP,aL,aE,aK,au,sl];omega)))
 have sT:=zg4 (all::l)
 rw[wY]at sT
 have Jr:∀ x∈pX (all::l),0≤x∧x≤1099511627776:=fun x hx=>zg3 hx
 obtain⟨⟨ea,ec,rfl, -,bJ⟩, -⟩:=hs
 have hG:pY all l=pieces all l [] (pX (all::l)):=rfl
 generalize pX (all::l)=es at bJ sT Jr hG
 have hbZ:=kZ.keeps (by omega) hbY
 clear sZ
 simp(disch:=omega)only[↓aa,ab,simprocAttr,sa, *]
 all_goals try omega
 have QZ:=aZ.ko bD.mono iP EI.ko
 refine bC Z [1,2,5,6,7] (fun T1 H1 u1 j1 n1 l1 g1=>?_) aw
 try simp(disch:=omega)only[sm,sl]at n1 l1 g1
 simp only[sq,simprocAttr]at u1
 refine bt kq (fun nn T X=>∃ (i:Nat) (w:Value) (out:List Span) (go:Option Nat),nn=es.length-i∧(T.get 6=some (w)∧T.get 7=some (.int .i64 i))∧(T.get 1=T1.get 1∧T.get 2=T1.get 2∧T.get 5=T1.get 5)∧True∧True∧(i≤es.length∧pieces all l out (es.drop i)=pY all l∧out.length≤i∧ze out∧OS Z.next 2 X w out.length (out.flatMap b9) go∧aq Z X)) ?_ ?_
 ·refine⟨_,0,_,.nil,none,rfl,?_,?_,trivial,trivial,wJ _,hG.symm,wy _,zg5,⟨rfl,rfl,rfl⟩,j1.same (by omega)⟩<;>exact ay
 rintro nn fk X1 ⟨i,w,out,go,rfl,m1,w1,_,_,hi,hP,gh,cn,hO,hS⟩ Qs hQ aD ai
 have EA:=hS.lo
 have EB:=hS.ag
 have ziv:=EI.lo
 have ziw:=EI.ag
 by_cases hlt:i+1<es.length
 ·obtain⟨r,o,cells,gg,tt,part,rfl,hr,aG,a8,rfl⟩:=bJ i es[i] (wj (by omega))
  obtain⟨r2,o2,nq,EC,ED,xe,Js,dW,jY,iV,rfl⟩:=bJ (i+1) es[i+1] (wj hlt)
  cases Js
  rw[aG]at jY
  cases jY
  have a1:=bI (show i<es.length by omega)
  have a2:((i:Int)+1).toNat=i+1:=by omega
  have e1:=hS.keeps hr aG
  have g1:=yT a8
  have g2:=yT iV
  clear a8 iV
  have b1:=Jr es[i] (wam (by omega))
  have b2:=Jr es[i+1] (wam hlt)
  have vu:es.drop i=es[i]::es.drop (i+1):=wX (by omega)
  have zX:es.drop (i+1)=es[i+1]::es.drop (i+2):=wX hlt
  have uN:pieces all l (if hasB all es[i]&& !mC l es[i]then kL out es[i] es[i+1]else out) (es.drop (i+1))=pY all l:=by
   rw[←hP,vu,zX,pieces]
  clear vu zX
  generalize es[i]=x at g1 b1 uN
  generalize es[i+1]=y at g2 b2 uN
  have hbX:=hS.keeps (by omega) hbZ
  have hh:hasB all x=decide (bw all∧all.ae≤x∧x≤all.ae+all.size-1):=rfl
  cases hd:hasB all x with
  |false=>
   rw[hd,wbj,wI (by simp)]at uN
   rw[hd]at hh
   replace hh:=hh.symm
   repeat'(first|(apply ao<;>intro)|refine az 6 [Fx,Fx,Fx,Fx,Fx,Fx,Fx,Fx,Fx,Fx,Fx,Fx,Fx,Fx,Fx] ?_|((with_reducible show af _ _ _ _ _);refine ak X1 (rh _ ah all x) ?_;intro H2 k2 l2 n2 g2 q2;try simp(disch:=omega)only[sm,sl]at l2 n2 g2 q2)|((with_reducible show Qs _ _ _ _ _);refine ai _ _ _ _ ?_)|simp(disch:=omega)only[↓aa,ab,simprocAttr,sa,bn, *])
   all_goals try omega
   have qc:aq Z H2:=hS.trans (Ko.same k2 (by omega))
   have eO:=hO.ko k2
   refine hQ _ _ _ ?_ ⟨i+1,w,out,go,rfl,?_,?_,trivial,trivial,by omega,uN,by omega,cn,eO,qc⟩<;>exact ay
  |true=>
   rw[hd]at hh
   replace hh:=hh.symm
   cases hc:mC l x with
   |true=>
    rw[hd,hc,wa7,wcP,wI (by simp)]at uN
    repeat'(first|(apply ao<;>intro)|refine az 6 [Fx,Fx,Fx,Fx,Fx,Fx,Fx,Fx,Fx,Fx,Fx,Fx,Fx,Fx,Fx] ?_|((with_reducible show af _ _ _ _ _);(first|refine ak X1 (rh _ ah all x) ?_|refine ak X1 (QR _ ah _ l (aZ.ko bD.mono QZ (hS.ko.trans aw)) x) ?_);intro H2 k2 l2 n2 g2 q2;try simp(disch:=omega)only[sm,sl]at l2 n2 g2 q2)|((with_reducible show Qs _ _ _ _ _);refine ai _ _ _ _ ?_)|simp(disch:=omega)only[↓aa,ab,simprocAttr,sa,bn, *])
    all_goals try omega
    have qc:aq Z H2:=hS.trans (Ko.same k2 (by omega))
    have eO:=hO.ko k2
    refine hQ _ _ _ ?_ ⟨i+1,w,out,go,rfl,?_,?_,trivial,trivial,by omega,uN,by omega,cn,eO,qc⟩<;>exact ay
   |false=>
    rw[hd,hc,wb0,wcm,wF rfl]at uN
    repeat'(first|(apply ao<;>intro)|refine az 6 [Fx,Fx,Fx,Fx,Fx,Fx,Fx,Fx,Fx,Fx,Fx,Fx,Fx,Fx,Fx] ?_|refine az 7 [Fx,Fx,Fx,Fx,Fx,Fx,Fx,Fx,Fx,Fx,Fx,Fx] ?_|((with_reducible show af _ _ _ _ _);(first|refine ak X1 (rh _ ah all x) ?_|refine ak X1 (QR _ ah _ l (aZ.ko bD.mono QZ (hS.ko.trans aw)) x) ?_);intro H2 k2 l2 n2 g2 q2;try simp(disch:=omega)only[sm,sl]at l2 n2 g2 q2)|((with_reducible show Qs _ _ _ _ _);refine ai _ _ _ _ ?_)|simp(disch:=omega)only[↓aa,ab,simprocAttr,sa,bn, *])
    all_goals try omega
    have eO:=hO.ko k2
    have qQ:=k2.ag
    refine af.mono (zgX H2 (by omega) eO (by omega) (by omega) x y (by omega) (by omega) cn) ?_
    rintro rr W ⟨Jn,hOW,aW⟩
    have qc:aq Z H2:=hS.trans (Ko.same k2 (by omega))
    have sW:aq Z W:=aW.same qc
    have mf:=zg6 out x y
    have zix:=sW.lo
    have zg9:=cn.put (f:=x) (t:=y) (by omega)
    simp(disch:=omega)only[↓aa,ab,simprocAttr,sa,bn, *]
    all_goals try omega
    refine hQ _ _ _ ?_ ⟨i+1,_,_,Jn,rfl,?_,?_,trivial,trivial,by omega,uN,by omega,zg9,hOW,sW⟩<;>exact ay
 ·have cg:es.length≤i+1:=by omega
  have vD:pieces all l out (es.drop i)=out:=by
   by_cases yj:i<es.length
   ·rw[wX yj,wbs (by omega)]
    rfl
   ·rw[wbs (by omega)]
    rfl
  rw[vD]at hP
  have ft:=OS.reads hO rfl (by omega) (v7 X1 out)
  rw[hP]at ft
  have sX:=EI.trans hS
  have hGG:pY all l=pY all l:=rfl
  repeat'(first|(apply ao<;>intro)|refine az 6 [Fx,Fx,Fx,Fx,Fx,Fx,Fx,Fx,Fx,Fx,Fx,Fx,Fx,Fx,Fx] ?_|((with_reducible show Qs _ _ _ _ _);refine ai _ _ _ _ ?_)|simp(disch:=omega)only[↓aa,ab,simprocAttr,sa,bn, *])
  all_goals try omega
  rw[←hG]
  first|exact ft|exact⟨ft,sX⟩
end Go.AM
