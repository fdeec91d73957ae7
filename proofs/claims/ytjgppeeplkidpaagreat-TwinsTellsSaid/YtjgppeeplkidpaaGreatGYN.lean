/-
  Walks over letters of the functions that the law reaches; written small by a program of mine.
-/
import Derived.Test.YtjgppeeplkidpaaGreatGYM
set_option linter.unusedVariables false
set_option linter.unusedSectionVars false
namespace Go.AM
attribute [local instance] fnMaps
open Go Go.Proofs
set_option maxRecDepth 100000
set_option maxHeartbeats 4000000
set_option linter.unusedSimpArgs false
section
variable{H0:Heap}{m rt ra:Nat}{x1 x2 y1 y2:Value}{a b:Gr}
theorem MH.move{H X:Heap}{To At:List Int}{bad:Bool}(h:MH H0 H m rt ra x1 x2 y1 y2 To At bad)(k:Ko H X)(e:X.lo=H.lo):MH H0 X m rt ra x1 x2 y1 y2 To At bad:=by
 obtain⟨a1,a2,a3,a4,a5,a6,⟨b1,b2,b3⟩,a8⟩:=h
 have:=k.ag
 exact⟨(k.objs _ b1).trans a1,(k.objs _ b2).trans a2,(k.objs _ b3).trans a3,a4.trans k,e.trans a5,a6,⟨by omega,by omega,by omega⟩,a8⟩
theorem Qb{xs ys:List bu}{To At To' At':List Int}{i:Nat}(h:kK a b To At (xs.take i) (ys.take i) To' At' true):kK a b To At xs ys To' At' true:=
 ⟨h.inv,h.ext,fun e=>(by cases e),fun R h1 h2 h3=>by
  have h4:RL (lF R) (xs.take i) (ys.take i):=⟨by rw[wU,wU,h3.1],fun t u v e1 e2=>by
   rw[wab]at e1 e2
   split at e1
   ·rename_i ht
    rw[wF ht]at e2
    exact h3.2 t u v e1 e2
   ·cases e1⟩
  cases(h.sub R h1 h2 h4).1⟩
theorem Qc(an:H0.lo≤H0.next)(n:Nat)(hp:P7 H0 m rt ra x1 x2 y1 y2 a b n):Jh H0 m rt ra x1 x2 y1 y2 a b n:=by
 intro H To At xv yv xs ys hM hI hc nU DV qZ hyr
 have Qd:=hM
 obtain⟨aC,oh,lR,oT,ig,⟨l1,l2,l3⟩,⟨t1,t2,t3⟩,n1,n2,n3⟩:=hM
 obtain⟨⟨xa,xc,rfl,⟨_,xm⟩,bs⟩, -⟩:=nU
 obtain⟨⟨ya,yc,rfl,⟨_,ym⟩,fh⟩, -⟩:=DV
 have nH:=oT.ag
 refine aV Tryz.f81 ?_
 simp only[Tryz.f81]
 by_cases bj:xs.length=ys.length
 ·have hd:decide ((xs.length:Int)=ys.length)=true:=wz (by omega)
  simp(disch:=omega)only[↓aa,ab,simprocAttr,sa, *]
  all_goals try omega
  refine bP H [0,1,2,6] (fun T9 H9 u9 j9 n9 l9 g9=>?_) aj
  try simp(disch:=omega)only[sm,sl]at n9 l9 g9
  simp only[sq,simprocAttr]at u9
  refine bL kq (fun nn T X=>∃ (i:Nat) (T' A':List Int) (bad:Bool),nn=xs.length-i∧(T.get 6=some (.int .i64 i))∧(T.get 0=T9.get 0∧T.get 1=T9.get 1∧T.get 2=T9.get 2)∧True∧True∧(i≤xs.length∧MH H0 X m rt ra x1 x2 y1 y2 T' A' bad∧kK a b To At (xs.take i) (ys.take i) T' A' bad∧H.next≤X.next)) ?_ ?_
  ·refine⟨_,0,_,_,_,rfl,?_,?_,trivial,trivial,wJ _,Qd.move j9 l9,by rw[wcq,wcq];exact zgE hI,by omega⟩<;>exact aJ
  rintro nn Jj X9 ⟨i,T',A',bad,rfl,m9,w9,_,_,hi,yZ,lG,jH⟩ Qs hQ aG ai
  have ov:=yZ
  obtain⟨Qe,E3,Jk,BZ,Jl, -,⟨u1,u2,u3⟩, -⟩:=yZ
  have Bd:=lG.inv.tl
  have vZ:oS T'≤n:=wK (zgA hI lG.inv lG.ext) hc
  cases bad with
  |true=>
   have B2:=Qb lG
   clear lG
   repeat'(first|(apply ak<;>intro)|((with_reducible show Qs _ _ _ _ _);refine ai _ _ _ _ ?_)|simp(disch:=omega)only[↓aa,ab,simprocAttr,sa, *])
   all_goals first|exact⟨by omega,_,_,_,ov,B2⟩|exact⟨_,_,_,ov,B2⟩|omega|trace_state
  |false=>
   by_cases hlt:i<xs.length
   ·obtain⟨r,o,cells,gg,tt,part,rfl,gS,zgC,aR,rfl⟩:=bs i xs[i] (by simp)
    obtain⟨r2,o2,gy,jP,jQ,jR,rfl,cq,fZ,cM,rfl⟩:=fh i ys[i] (by simp)
    have a1:=bn hlt
    have a2:=bn (show i<ys.length by omega)
    have e1:=BZ.objs r gS
    have e2:=BZ.objs r2 cq
    have hx:xs.take (i+1)=xs.take i++[xs[i]]:=by rw[wR,wj hlt];rfl
    have hy:ys.take (i+1)=ys.take i++[ys[i]]:=by rw[wR,wj (show i<ys.length by omega)];rfl
    have Ca:=qZ xs[i] (wam hlt)
    have Cb:=hyr ys[i] (wam (show i<ys.length by omega))
    generalize xs[i]=u at*
    generalize ys[i]=v at*
    unfold bF at aR cM
    obtain⟨q0,q1⟩:=Ew aR
    obtain⟨p0,p1⟩:=Ew cM
    have zo:(u.kind≠v.kind∨u.kind≠2∧u≠v)→kK a b To At xs ys T' A' true:=fun hd=>Qb (i:=i+1) (by rw[hx,hy];exact zgF lG hd)
    have pW:MH H0 (X9.setRow m [x1,x2,y1,y2,.slice (some ⟨rt,0,none⟩) T'.length T'.length,.slice (some ⟨ra,0,none⟩) A'.length A'.length,.bool true]) m rt ra x1 x2 y1 y2 T' A' true:=
     ⟨by rw[ay,cr rfl];rfl,by rw[ay,au (wbl n1)];exact E3,by rw[ay,au (wbl n2)];exact Jk,BZ.setRow (by omega) _,by rw[aB];exact Jl,⟨l1,l2,l3⟩,⟨u1,u2,u3⟩,n1,n2,n3⟩
    clear Bd
    by_cases hk:u.kind=v.kind
    ·have rZ:decide (u.kind=v.kind)=true:=wz hk
     by_cases dL:u.kind=2
     ·have vl:decide (u.kind=2)=true:=wz dL
      obtain⟨b1,b2⟩:=Ca dL
      obtain⟨b3,b4⟩:=Cb (by omega)
      have z1:u.x=((u.x.toNat:Nat):Int):=by omega
      have z2:v.x=((v.x.toNat:Nat):Int):=by omega
      have Jm:=fun(X:Heap) (hM:MH H0 X m rt ra x1 x2 y1 y2 T' A' false)=>hp X T' A' u.x.toNat v.x.toNat hM lG.inv vZ b2 b4
      rw[←z1,←z2]at Jm
      have zp:=fun(T2 A2:List Int) (bd:Bool) (h:xy a b T' A' u.x.toNat v.x.toNat T2 A2 bd)=>zgG lG dL (by omega) h
      rw[←hx,←hy]at zp
      clear hk dL z1 z2 lG zo Ca Cb hx hy
      repeat'(first|(apply ak<;>intro)|refine aw 5 [Fx,Fx,Fx,Fx,Fx,Fx,Fx,Fx,Fx,Fx,Fx,Fx,Fx,Fx,Fx,Fx,Fx,Fx,Fx,Fx,Fx,Fx,Fx,Fx,Fx,Fx,Fx,Fx,Fx,Fx] ?_|refine aw 8 [Fx,Fx,Fx,Fx,Fx,Fx,Fx,Fx,Fx,Fx,Fx,Fx] ?_|((with_reducible show Qs _ _ _ _ _);refine ai _ _ _ _ ?_)|simp(disch:=omega)only[↓aa,ab,simprocAttr,sa, *])
      all_goals try omega
      refine(Jm X9 ov).mono ?_
      rintro _ Y ⟨rfl,nY,T2,A2,bd,Qf,Qg⟩
      have hV3:=zp _ _ _ Qg
      clear zp Jm Qg
      have hM4:MH H0 (Y.bU H0.lo) m rt ra x1 x2 y1 y2 T2 A2 bd:=Qf.move aj (by rw[aH];exact Qf.eq.symm)
      have nY2:(Y.bU H0.lo).next=Y.next:=aD ..
      refine hQ _ _ _ ?_ ⟨i+1,T2,A2,bd,rfl,?_,?_,trivial,trivial,by omega,hM4,hV3,by omega⟩<;>exact aJ
     ·have vl:decide (u.kind=2)=false:=wx dL
      by_cases he:u=v
      ·have zp:=zgH lG dL
       subst he
       rw[←hx,←hy]at zp
       clear hk dL lG zo Ca Cb hx hy
       repeat'(first|(apply ak<;>intro)|refine aw 5 [Fx,Fx,Fx,Fx,Fx,Fx,Fx,Fx,Fx,Fx,Fx,Fx,Fx,Fx,Fx,Fx,Fx,Fx,Fx,Fx,Fx,Fx,Fx,Fx,Fx,Fx,Fx,Fx,Fx,Fx] ?_|((with_reducible show Qs _ _ _ _ _);refine ai _ _ _ _ ?_)|simp(disch:=omega)only[↓aa,ab,simprocAttr,sa,wbq,wb8, *])
       all_goals first|(refine hQ _ _ _ ?_ ⟨i+1,T',A',false,rfl,?_,?_,trivial,trivial,by omega,ov,zp,jH⟩<;>exact aJ)|omega|trace_state
      ·have ly:=zo (.inr ⟨dL,he⟩)
       have hd3:(u.kind==v.kind&&u.x==v.x)=false:=waK.2 fun q=>by
        simp only[wA,wbO]at q
        exact he (PN.2 q)
       clear hk dL lG zo Ca Cb hx hy he
       repeat'(first|(apply ak<;>intro)|refine aw 5 [Fx,Fx,Fx,Fx,Fx,Fx,Fx,Fx,Fx,Fx,Fx,Fx,Fx,Fx,Fx,Fx,Fx,Fx,Fx,Fx,Fx,Fx,Fx,Fx,Fx,Fx,Fx,Fx,Fx,Fx] ?_|((with_reducible show Qs _ _ _ _ _);first|refine ai _ _ _ _ ?_|refine aG _ _ _ ?_)|simp(disch:=omega)only[↓aa,ab,simprocAttr,sa, *])
       all_goals first|exact⟨by omega,_,_,_,pW,ly⟩|exact⟨_,_,_,pW,ly⟩|omega|trace_state
    ·have ly:=zo (.inl hk)
     have rZ:decide (u.kind=v.kind)=false:=wx hk
     clear hk lG zo Ca Cb hx hy
     repeat'(first|(apply ak<;>intro)|refine aw 5 [Fx,Fx,Fx,Fx,Fx,Fx,Fx,Fx,Fx,Fx,Fx,Fx,Fx,Fx,Fx,Fx,Fx,Fx,Fx,Fx,Fx,Fx,Fx,Fx,Fx,Fx,Fx,Fx,Fx,Fx] ?_|((with_reducible show Qs _ _ _ _ _);first|refine ai _ _ _ _ ?_|refine aG _ _ _ ?_)|simp(disch:=omega)only[↓aa,ab,simprocAttr,sa, *])
     all_goals first|exact⟨by omega,_,_,_,pW,ly⟩|exact⟨_,_,_,pW,ly⟩|omega|trace_state
   ·have ei:i=xs.length:=by omega
    have B2:kK a b To At xs ys T' A' false:=by
     rw[ei,waj,bj,waj]at lG
     exact lG
    clear lG
    repeat'(first|(apply ak<;>intro)|refine aw 5 [Fx,Fx,Fx,Fx,Fx,Fx,Fx,Fx,Fx,Fx,Fx,Fx,Fx,Fx,Fx,Fx,Fx,Fx,Fx,Fx,Fx,Fx,Fx,Fx,Fx,Fx,Fx,Fx,Fx,Fx] ?_|((with_reducible show Qs _ _ _ _ _);refine ai _ _ _ _ ?_)|simp(disch:=omega)only[↓aa,ab,simprocAttr,sa, *])
    all_goals first|exact⟨by omega,_,_,_,ov,B2⟩|exact⟨_,_,_,ov,B2⟩|omega|trace_state
 ·have hv:=zgI (xs:=xs) (ys:=ys) hI bj
  have hd:decide ((xs.length:Int)=ys.length)=false:=wx (by omega)
  simp(disch:=omega)only[↓aa,ab,simprocAttr,sa, *]
  all_goals try omega
  have pW:MH H0 (H.setRow m [x1,x2,y1,y2,.slice (some ⟨rt,0,none⟩) To.length To.length,.slice (some ⟨ra,0,none⟩) At.length At.length,.bool true]) m rt ra x1 x2 y1 y2 To At true:=
   ⟨by rw[ay,cr rfl];rfl,by rw[ay,au (wbl n1)];exact oh,by rw[ay,au (wbl n2)];exact lR,oT.setRow (by omega) _,by rw[aB];exact ig,⟨l1,l2,l3⟩,⟨t1,t2,t3⟩,n1,n2,n3⟩
  refine named (H.setRow m [x1,x2,y1,y2,.slice (some ⟨rt,0,none⟩) To.length To.length,.slice (some ⟨ra,0,none⟩) At.length At.length,.bool true]) (fun Y eY=>?_)
  have nY:H.next≤Y.next:=by rw[eY,aF];omega
  rw[←eY]at pW
  rw[←eY]
  clear eY
  refine bP Y [0,1,2,6] (fun T9 H9 u9 j9 n9 l9 g9=>?_) aj
  try simp(disch:=omega)only[sm,sl]at n9 l9 g9
  simp only[sq,simprocAttr]at u9
  refine bL kq (fun nn T X=>∃ (i:Nat),nn=xs.length-i∧(T.get 6=some (.int .i64 i))∧(T.get 0=T9.get 0∧T.get 1=T9.get 1∧T.get 2=T9.get 2)∧True∧True∧(i=0∧MH H0 X m rt ra x1 x2 y1 y2 To At true∧H.next≤X.next)) ?_ ?_
  ·refine⟨_,0,rfl,?_,?_,trivial,trivial,rfl,pW.move j9 l9,by omega⟩<;>exact aJ
  rintro nn Jj X9 ⟨i,rfl,m9,w9,_,_,hi,yZ,jH⟩ Qs hQ aG ai
  have ov:=yZ
  obtain⟨Qe,E3,Jk,BZ,Jl, -,⟨u1,u2,u3⟩, -⟩:=yZ
  clear Qd
  repeat'(first|(apply ak<;>intro)|((with_reducible show Qs _ _ _ _ _);refine ai _ _ _ _ ?_)|simp(disch:=omega)only[↓aa,ab,simprocAttr,sa, *])
  all_goals first|exact⟨by omega,_,_,_,ov,hv⟩|exact⟨_,_,_,ov,hv⟩|omega|trace_state
theorem Qh(an:H0.lo≤H0.next)(hA:eg H0 x1 x2 a)(hB:eg H0 y1 y2 b)(pI:kL a)(vN:kL b):∀ n,Jh H0 m rt ra x1 x2 y1 y2 a b n
 |0=>Qc an 0 (P8 an hA hB pI vN 0 fun k h=>by omega)
 |n+1=>Qc an (n+1) (P8 an hA hB pI vN (n+1) fun k h=>by
   have:k=n:=by omega
   subst this
   exact Qh an hA hB pI vN k)
end
def nB(n i:Nat):List Int:=List.replicate i (-1)++List.replicate (n-i) 0
theorem zgJ{n i:Nat}(h:i<n):(nB n i).set i (-1)=nB n (i+1):=by
 unfold nB
 obtain⟨k,e⟩:∃ k,n-i=k+1:=⟨n-i-1,by omega⟩
 rw[List.set_append_right _ _ (by rw[wbn];exact wy _),wbn,wbS,e,List.replicate_succ,List.set_cons_zero,show n-(i+1)=k by omega,List.replicate_succ',waP]
 rfl
theorem zgK{n i:Nat}(h:i≤n):(nB n i).length=n:=by
 unfold nB
 rw[wN,wbn,wbn];omega
theorem zgL(H:Heap)(l c:Nat):makeSliceV E H 45 (.int .i64 (.ofNat l)) (.int .i64 (.ofNat c))=bif Nat.ble l c&&Nat.ble c 1000000000&&Nat.ble (c*8) 10000000000&& !Nat.beq 1 0&&Nat.beq 1 1 then some (.slice (some ⟨H.next,0,none⟩) l c,H.newRow (df [Value.int .i64 0] c))else none:=kq
theorem Qi:∀ n,df [Value.int .i64 0] n=(List.replicate n (0:Int)).map cx
 |0=>rfl
 |n+1=>by
  rw[iG,Qi n,List.replicate_succ,wbk]
  rfl
theorem zgM(H:Heap)(n:Nat)(h:n≤1000000):makeSliceV E H 45 (.int .i64 (n:Int)) (.int .i64 (n:Int))=some (.slice (some ⟨H.next,0,none⟩) n n,H.newRow ((List.replicate n (0:Int)).map cx)):=by
 have e:=zgL H n n
 rw[Qi]at e
 refine wE e ?_
 rw[wP (wy n),wP (show n≤1000000000 by omega),wP (show n*8≤10000000000 by omega)]
 rfl
theorem zgN(n:Nat):nB n 0=List.replicate n 0:=by unfold nB;rfl
theorem zgO(n:Nat):nB n n=List.replicate n (-1):=by unfold nB;rw[wbS];exact waw _
theorem Qj(H:Heap)(an:H.lo≤H.next)(n:Nat)(hn:n≤1000000):af E (aK 80) [.int .i64 n] H fun r H'=>(∃w,r= .slice (some ⟨w,0,none⟩) n n∧H.next≤w∧w<H'.next∧H'.objs.get w=some (.row ((List.replicate n (-1:Int)).map cx) none true))∧aq H H':=by
 refine aV Tryz.f80 ?_
 simp only[Tryz.f80]
 have HK:=zgM H n hn
 simp(disch:=omega)only[↓aa,ab,simprocAttr,sa, *]
 refine bP H [0,3,4] (fun T1 H1 u1 j1 n1 l1 g1=>?_) aj
 try simp(disch:=omega)only[sm,sl]at n1 l1 g1
 simp only[sq,simprocAttr]at u1
 refine bL kq (fun nn T X=>∃ i:Nat,nn=n-i∧(T.get 4=some (.int .i64 i))∧(T.get 0=T1.get 0∧T.get 3=T1.get 3)∧True∧True∧(i≤n∧X.objs.get H.next=some (.row ((nB n i).map cx) none true)∧Ko H X∧X.lo=H.lo∧H.next<X.next)) ?_ ?_
 ·refine⟨_,0,rfl,?_,?_,trivial,trivial,wJ _,by rw[g1,zgN];simp(disch:=omega)only[ay,aN,az,aF,aE,aB,aM,aO,aQ,aP,aL,aD,aH,au,sl],j1,by omega,by omega⟩<;>exact aJ
 rintro nn dA X1 ⟨i,rfl,m1,w1,_,_,hi,aC,kX,lX,jH⟩ Qs hQ aG ai
 have hl:=zgK hi
 by_cases hlt:i<n
 ·have a1:=bn hlt
  have w1:=Jg (nB n i) (i:=i) (by omega) (-1)
  rw[zgJ hlt]at w1
  have w3:decide (i+1≤((nB n i).map cx).length)=true:=wz (by rw[wO];omega)
  have r1:(X1.setRow H.next ((nB n (i+1)).map cx)).objs.get H.next=some (.row ((nB n (i+1)).map cx) none true):=by rw[ay,cr rfl];rfl
  clear hl
  repeat'(first|(apply ak<;>intro)|((with_reducible show Qs _ _ _ _ _);refine ai _ _ _ _ ?_)|simp(disch:=omega)only[↓aa,ab,simprocAttr,sa, *])
  all_goals first|(refine hQ _ _ _ ?_ ⟨i+1,rfl,?_,?_,trivial,trivial,by omega,r1,kX.setRow (by omega) _,by rw[aB];omega,by rw[aF];omega⟩<;>exact aJ)|omega|trace_state
 ·have ei:i=n:=by omega
  rw[ei,zgO]at aC
  repeat'(first|(apply ak<;>intro)|((with_reducible show Qs _ _ _ _ _);refine ai _ _ _ _ ?_)|simp(disch:=omega)only[↓aa,ab,simprocAttr,sa, *])
  all_goals first|exact⟨⟨_,rfl,wy _,jH,aC⟩,kX.same lX⟩|exact⟨⟨wy _,jH,aC⟩,kX.same lX⟩|omega|trace_state
theorem Jd(H:Heap)(l:List Int):cY (RInt .i64) 1 H (l.map cx) l:=by
 refine⟨by rw[wO,waY],fun i x hx=>⟨[.int .i64 x],?_,rfl⟩⟩
 have hi:=(wD.1 hx).1
 rw[du,wF (by rw[wO];omega),waY,←List.map_drop,wX hi]
 rw[wj hi,wi]at hx
 rw[hx]
 rfl
theorem zgP(H:Heap)(an:H.lo≤H.next){x1 x2 y1 y2:Value}{a b:Gr}(hA:eg H x1 x2 a)(hB:eg H y1 y2 b)(ga:jT a)(gb:jT b)(la:a.nodes.length≤1000000)(lb:b.nodes.length≤1000000):af E (aK 39) [.agg #[x1,x2],.agg #[y1,y2]] H fun r H'=>
  (∃To At bad,kK a b (List.replicate a.nodes.length (-1)) (List.replicate b.nodes.length (-1)) a.roots b.roots To At bad∧(bad=false→∃ v,r= .tuple #[v,.bool true]∧SLr (RInt .i64) 1 H' v To)∧(bad=true→r= .tuple #[.slice none 0 0,.bool false]))∧aq H H':=by
 have c1:=fun(X:Heap) (hx:X.lo≤X.next) (k:Ko H X)=>PQ X hx (hA.ko k) ga
 have c2:=fun(X:Heap) (hx:X.lo≤X.next) (k:Ko H X)=>PQ X hx (hB.ko k) gb
 have hrA:=hA.roots
 have hrB:=hB.roots
 have hv:=fun(m rt ra:Nat) (n:Nat)=>Qh (m:=m) (rt:=rt) (ra:=ra) an hA hB ga.right gb.right n
 obtain⟨⟨⟨na,nc,rfl,⟨_,hn⟩,_⟩,_⟩,⟨⟨ra,rc,rfl,_,_⟩,_⟩⟩:=hA
 obtain⟨⟨⟨nb,nd,rfl,⟨_,hm⟩,_⟩,_⟩,⟨⟨rb,rd,rfl,_,_⟩,_⟩⟩:=hB
 refine aV Tryz.f39 ?_
 simp only[Tryz.f39]
 repeat'(first|refine aw 3 [Fx,Fx,Fx,Fx,Fx,Tx,Fx,Fx,Fx,Tx,Fx,Fx,Fx] ?_|((with_reducible show af _ _ _ _ _);(first|refine ao H (c1 _ ah aj) ?_|refine ao H (c2 _ ah aj) ?_);intro H2 k2 l2 n2 g2 q2;try simp(disch:=omega)only[sm,sl]at l2 n2 g2 q2)|simp(disch:=omega)only[↓aa,ab,simprocAttr,sa, *])
 all_goals try omega
 refine af.mono (Qj _ ah _ la) ?_
 rintro _ Y ⟨⟨w1,rfl,h1,h2,h3⟩,sY⟩
 have kY:Ko H Y:=Ko.call aj sY
 have lY:=sY.lo;have nY:=sY.ag;have gY:=sY.objs
 have e1:=(gY (H.next+1) (by simp(disch:=omega)only[ay,aN,az,aF,aE,aB,aM,aO,aQ,aP,aL,aD,aH,au,sl];omega)).trans (by simp(disch:=omega)only[ay,aN,az,aF,aE,aB,aM,aO,aQ,aP,aL,aD,aH,au,sl];exact g2 (H.next+1) (by omega))
 simp(disch:=omega)only[sm,sl]at h1 lY nY gY
 simp(disch:=omega)only[↓aa,ab,simprocAttr,sa, *]
 refine af.mono (Qj _ ah _ lb) ?_
 rintro _ Z ⟨⟨w2,rfl,h4,h5,h6⟩,sZ⟩
 have kZ:Ko H Z:=Ko.call aj sZ
 have lZ:=sZ.lo;have nZ:=sZ.ag;have gZ:=sZ.objs
 simp(disch:=omega)only[sm,sl]at h4 lZ nZ gZ
 have h7:=(gZ w1 (by omega)).trans h3
 clear sY sZ
 simp(disch:=omega)only[↓aa,ab,simprocAttr,sa, *]
 have hM:MH H ((Z.bU H.lo).newRow [.slice na a.nodes.length nc,.slice ra a.roots.length rc,.slice nb b.nodes.length nd,.slice rb b.roots.length rd,.slice (some ⟨w1,0,none⟩) a.nodes.length a.nodes.length,.slice (some ⟨w2,0,none⟩) b.nodes.length b.nodes.length,.bool false]) Z.next w1 w2 (.slice na a.nodes.length nc) (.slice ra a.roots.length rc) (.slice nb b.nodes.length nd) (.slice rb b.roots.length rd) (List.replicate a.nodes.length (-1)) (List.replicate b.nodes.length (-1)) false:=
  ⟨by rw[wbn,wbn];simp(disch:=omega)only[ay,aN,az,aF,aE,aB,aM,aO,aQ,aP,aL,aD,aH,au,sl],by simp(disch:=omega)only[ay,aN,az,aF,aE,aB,aM,aO,aQ,aP,aL,aD,aH,au,sl];exact h7,by simp(disch:=omega)only[ay,aN,az,aF,aE,aB,aM,aO,aQ,aP,aL,aD,aH,au,sl];exact h6,aj,by simp(disch:=omega)only[ay,aN,az,aF,aE,aB,aM,aO,aQ,aP,aL,aD,aH,au,sl],⟨by omega,by omega,by omega⟩,⟨by simp(disch:=omega)only[ay,aN,az,aF,aE,aB,aM,aO,aQ,aP,aL,aD,aH,au,sl];omega,by simp(disch:=omega)only[ay,aN,az,aF,aE,aB,aM,aO,aQ,aP,aL,aD,aH,au,sl];omega,by simp(disch:=omega)only[ay,aN,az,aF,aE,aB,aM,aO,aQ,aP,aL,aD,aH,au,sl];omega⟩,by omega,by omega,by omega⟩
 refine af.mono (hv _ _ _ _ _ _ _ _ _ _ _ hM (zgQ a b) (wy _) hrA hrB ga.right.roots gb.right.roots) ?_
 rintro _ X ⟨rfl,nX,To,At,bad,ov,hV⟩
 obtain⟨Qe,E3,Jk,BZ,Jl,⟨l1,l2,l3⟩,⟨u1,u2,u3⟩,n1,n2,n3⟩:=ov
 clear hM hv
 have hTl:=hV.inv.tl
 have hS:SLr (RInt .i64) 1 X (.slice (some ⟨w1,0,none⟩) To.length To.length) To:=SLr.row (RInt.mono _) u2 E3 (Jd X To) ⟨wy _,fun x cells g t hx ho=>⟨t,ho⟩⟩ (by omega)
 rw[hTl]at hS
 cases bad with
 |true=>
  simp(disch:=omega)only[↓aa,ab,simprocAttr,sa, *]
  exact⟨⟨To,At,true,hV,fun e=>(by cases e),fun _=>by first|rfl|trivial⟩,aA⟩
 |false=>
  simp(disch:=omega)only[↓aa,ab,simprocAttr,sa, *]
  exact⟨⟨To,At,false,hV,fun _=>⟨_,rfl,hS⟩,fun e=>(by cases e)⟩,aA⟩
end Go.AM
