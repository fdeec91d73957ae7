/-
  Walks over letters of the functions that the law reaches; written small by a program of mine.
-/
import Derived.Test.YtjgppeeplkidpaaGreatGYK
import Derived.Test.YtjgppeeplkidpaaGreatGYS
import Derived.Test.YtjgppeeplkidpaaGreatGM1
set_option linter.unusedVariables false
set_option linter.unusedSectionVars false
namespace Go.AM
attribute [local instance] fnMaps
open Go Go.Proofs
set_option maxRecDepth 100000
set_option maxHeartbeats 4000000
set_option linter.unusedSimpArgs false
theorem Q7(H:Heap)(an:H.lo≤H.next){s:St}{w t f zl:Value}(hS:eK H s w t f zl)(cd:nj s)(hl:s.words.length≤400)(jI:s.table.length≤100)(fH:s.aI.length≤100000)(nt: -9223372036854775808≤s.top∧s.top≤9223372036854775807):af E (aK 31) [cz s w t f zl] H fun r H'=>
  ((dR s=0→∃ x y v,r= .tuple #[.agg #[x,y],v,.int .i64 0]∧eg H' x y (fB s)∧SLr (RInt .i64) 1 H' v (aS s))∧(dR s≠0→r= .tuple #[.agg #[.slice none 0 0,.slice none 0 0],.slice none 0 0,.int .i64 4]))∧aq H H':=by
 have c1:=fun(X:Heap) (hx:X.lo≤X.next) (k:Ko H X)=>zg0 X hx (hS.ko k) cd hl jI nt
 have c2:=fun(X:Heap) (hx:X.lo≤X.next) (k:Ko H X)=>ri X hx _ _ (hS.w.ko RW.mono k) cd.words
 have oP:=hS
 obtain⟨⟨wa,wc,rfl,⟨JM,Jc⟩,_⟩,_⟩:=hS.w
 obtain⟨⟨ta,tc,rfl,_⟩,_⟩:=hS.t
 obtain⟨⟨fa,fc,rfl,_⟩,_⟩:=hS.f
 obtain⟨⟨za,zc,rfl,⟨_,Qn⟩,zq⟩,_⟩:=hS.sl
 clear hS
 unfold cz at c1
 refine aV Tryz.f31 ?_
 simp only[Tryz.f31]
 unfold cz
 repeat'(first|(apply ak<;>intro)|apply bw|refine cO (fun _=>?_) (fun _=>?_)|refine aw 8 [Fx,Fx,Fx,Fx,Fx,Fx,Fx,Fx,Fx,Fx,Fx,Fx,Fx] ?_|refine aw 13 [Fx,Fx,Fx,Fx,Fx,Fx,Fx,Fx,Fx,Fx,Fx,Fx,Fx,Fx,Tx,Fx,Fx,Fx,Fx] ?_|refine aw 17 [Fx,Fx,Fx,Fx,Fx,Fx,Fx,Fx,Fx,Fx,Fx,Fx,Fx,Fx,Fx,Fx,Fx,Fx,Fx,Fx] ?_|refine aw 23 [Fx,Fx,Fx,Fx,Fx,Fx,Fx,Fx,Fx,Tx,Fx,Fx,Fx,Fx] ?_|((with_reducible show Qs _ _ _ _ _);first|refine ai _ _ _ _ ?_|refine aG _ _ _ ?_)|simp(disch:=omega)only[↓aa,ab,simprocAttr,sa, *])
 refine af.mono (c1 _ ah aj) ?_
 rintro _ Y ⟨⟨mz,mA⟩,sY⟩
 have kY:Ko H Y:=Ko.call aj sY
 have lY:=sY.lo;have nY:=sY.ag;have gY:=sY.objs
 simp(disch:=omega)only[sm,sl,sI]at lY nY gY
 have bY:=gY H.next (by omega)
 have kM:=gY (H.next+1) (by omega)
 simp(disch:=omega)only[sm,sl,sI]at bY kM
 clear sY gY c1
 by_cases h0:dR s=0
 ·obtain⟨vp,rfl,hP⟩:=mz h0
  have L:=zI h0
  have cF:(aS s).length≤1000000:=E9 (by omega) (by omega)
  have Ck:=hP
  obtain⟨⟨pa,pc,rfl,⟨_,pm⟩,pD⟩, -⟩:=hP
  clear mz mA
  repeat'(first|(apply ak<;>intro)|apply bw|refine cO (fun _=>?_) (fun _=>?_)|refine aw 8 [Fx,Fx,Fx,Fx,Fx,Fx,Fx,Fx,Fx,Fx,Fx,Fx,Fx] ?_|refine aw 13 [Fx,Fx,Fx,Fx,Fx,Fx,Fx,Fx,Fx,Fx,Fx,Fx,Fx,Fx,Tx,Fx,Fx,Fx,Fx] ?_|refine aw 17 [Fx,Fx,Fx,Fx,Fx,Fx,Fx,Fx,Fx,Fx,Fx,Fx,Fx,Fx,Fx,Fx,Fx,Fx,Fx,Fx] ?_|refine aw 23 [Fx,Fx,Fx,Fx,Fx,Fx,Fx,Fx,Fx,Tx,Fx,Fx,Fx,Fx] ?_|((with_reducible show Qs _ _ _ _ _);first|refine ai _ _ _ _ ?_|refine aG _ _ _ ?_)|simp(disch:=omega)only[↓aa,ab,simprocAttr,sa,sI, *])
  all_goals try omega
  refine bP Y [1,2,5,7,8] (fun T6 H6 u6 j6 n6 l6 g6=>?_) jr
  try simp(disch:=omega)only[sm,sl,sI]at n6 l6 g6
  simp only[sq,simprocAttr]at u6
  refine bL kq (fun nn T X=>∃ (i:Nat) (v:Value) (cs:List Value) (f:Option (Nat×Nat)),nn=(aS s).length-i∧(T.get 8=some (.int .i64 i))∧(T.get 1=T6.get 1∧T.get 2=T6.get 2∧T.get 5=T6.get 5∧T.get 7=T6.get 7)∧True∧True∧(i≤(aS s).length∧b8 (Y.next+1) 3 X v i cs f∧cY iz 3 X cs (((aS s).take i).map (qd s.words (aS s)))∧X.objs.get Y.next=some (.row [v,.slice none 0 0] none true)∧Y.next+1≤X.next∧Ko Y X∧X.lo=Y.lo)) ?_ ?_
  ·have b1:=g6 Y.next
   rw[cr rfl,wai]at b1
   refine⟨_,0,.slice none 0 0,List.nil,none,rfl,?_,?_,trivial,trivial,wJ _,b8.nil _ _ _,cY.nil _ _ _,b1,by omega,j6,l6⟩<;>exact aJ
  rintro nn I6 X6 ⟨i,v,cs,f,rfl,m6,w6,_,_,hi,hO,hE,Cm,QZ,kO,I8⟩ Qs hQ aG ai
  have rA:=kY.trans kO
  have JN:=(kO.objs H.next (by omega)).trans bY
  by_cases hlt:i<(aS s).length
  ·have zjh:=pD
   obtain⟨r,o,cells,gg,tt,part,rfl,hr,aC,aR,rfl⟩:=pD i (aS s)[i] (by simp)
   have a1:=bn hlt
   have e1:=(kO.objs r hr).trans aC
   have q0:=jS aR
   have Cn:(aS s)[i]∈aS s:=wam hlt
   have iy:(aS s).take (i+1)=(aS s).take i++[(aS s)[i]]:=by rw[wR,wj hlt];rfl
   generalize (aS s)[i]=p at*
   have nk:=L.obj p Cn
   have Co:=L.vE p Cn
   obtain⟨h1,h2,h3,h4,h5⟩:=kx nk
   have h6:=ku h3
   have bf:ct (aU s.words p)=1+(aU s.words p).fields+(aU s.words p).bC:=by unfold ct;rw[wF h3]
   have c3:=fun(X:Heap) (hx:X.lo≤X.next) (k:Ko H X)=>c2 X hx k p (by omega) (by omega)
   rw[nk]at c3
   obtain⟨p',rfl⟩:=wbz h1
   have Ff:s.words≠[]:=fun e=>by rw[e]at h2;simp at h2;omega
   obtain⟨wr,E1,zhI,wg,wt,ew,jb,uE,xG⟩:=QV oP.w Ff
   simp only[waq,wbT]at ew
   obtain⟨rfl,rfl⟩:=ew
   have eW:=(rA.objs wr jb).trans uE
   obtain⟨td,xH⟩:=JE nk
   have xI:=fun k=>JF (k:=k) nk
   have oV:rz s.words p'=(s.words.drop (p'+1+(aU s.words p').fields.toNat)).take (aU s.words p').bC.toNat:=rfl
   have Cp:qd s.words (aS s) p'=⟨(aU s.words p').kind,(qb s.words p').map (eh (aS s)),rz s.words p'⟩:=rfl
   clear h5 nk h3
   generalize aU s.words p'=hd at*
   generalize qb s.words p'=fs at*
   generalize rz s.words p'=rs at*
   obtain⟨F,hF⟩:∃ F:Nat,hd.fields=F:=⟨hd.fields.toNat,by omega⟩
   obtain⟨R,hR⟩:∃ R:Nat,hd.bC=R:=⟨hd.bC.toNat,by omega⟩
   simp only[bO,hF,hR]at c3
   rw[hF]at Co td xI oV h6 bf
   rw[hR]at xH oV h6 bf
   simp only[waD]at td xH xI oV
   repeat'(first|(apply ak<;>intro)|apply bw|refine cO (fun _=>?_) (fun _=>?_)|refine aw 8 [Fx,Fx,Fx,Fx,Fx,Fx,Fx,Fx,Fx,Fx,Fx,Fx,Fx] ?_|refine aw 13 [Fx,Fx,Fx,Fx,Fx,Fx,Fx,Fx,Fx,Fx,Fx,Fx,Fx,Fx,Tx,Fx,Fx,Fx,Fx] ?_|refine aw 17 [Fx,Fx,Fx,Fx,Fx,Fx,Fx,Fx,Fx,Fx,Fx,Fx,Fx,Fx,Fx,Fx,Fx,Fx,Fx,Fx] ?_|refine aw 23 [Fx,Fx,Fx,Fx,Fx,Fx,Fx,Fx,Fx,Tx,Fx,Fx,Fx,Fx] ?_|((with_reducible show af _ _ _ _ _);refine ao X6 (c3 _ ah (rA.trans aj)) ?_;intro H2 k2 l2 n2 g2 q2;try simp(disch:=omega)only[sm,sl,sI]at l2 n2 g2 q2)|((with_reducible show Qs _ _ _ _ _);first|refine ai _ _ _ _ ?_|refine aG _ _ _ ?_)|simp(disch:=omega)only[↓aa,ab,simprocAttr,sa,sI, *])
   all_goals try omega
   have kI:=hQ
   have fS:=(yF xG).2.1
   have eXw:=JN
   refine bP X6 [1,2,5,7,8,9,11,12] (fun T7 H7 u7 j7 n7 l7 g7=>?_) jr
   try simp(disch:=omega)only[sm,sl,sI]at n7 l7 g7
   simp only[sq,simprocAttr]at u7
   refine bL kq (fun nn T X=>∃ (j:Nat) (vf:Value) (ff:Option (Nat×Nat)),nn=F-j∧(T.get 12=some (.int .i64 j))∧(T.get 1=T7.get 1∧T.get 2=T7.get 2∧T.get 5=T7.get 5∧T.get 7=T7.get 7∧T.get 8=T7.get 8∧T.get 9=T7.get 9∧T.get 11=T7.get 11)∧True∧True∧(j≤F∧b8 (Y.next+1) 2 X vf j (((fs.take j).map (eh (aS s))).flatMap bF) ff∧b8 (Y.next+1) 3 X v i cs f∧pF ff f∧gA X6 X∧X.objs.get (H2.next+1)=some (.row [.int .i64 hd.kind,vf,.slice none 0 0] none true)∧X.objs.get H2.next=some (.row [.int .i64 hd.kind,.int .i64 F,.int .i64 R,.bool hd.mark,.int .i64 hd.fu] none true)∧X.objs.get Y.next=some (.row [v,.slice none 0 0] none true)∧H2.next+2≤X.next∧Ko Y X∧X.lo=Y.lo)) ?_ ?_
   ·have b1:=g7 H2.next
    have b2:=g7 (H2.next+1)
    have b3:=(j7.objs Y.next (by omega)).trans Cm
    simp(disch:=omega)only[sm,sl,sI]at b1 b2
    refine⟨_,0,.slice none 0 0,none,rfl,?_,?_,trivial,trivial,wJ _,b8.nil _ _ _,hO.ko j7,trivial,j7.ia,b2,b1,b3,by omega,kO.trans j7,by omega⟩<;>exact aJ
   rintro nn I9 X7 ⟨j,vf,ff,rfl,m7,w7,_,_,hj,nC,xJ,JO,Cq,Cr,Cs,Ct,Q3,jU,Jb⟩ Qs hQ aG ai
   have zL:=kY.trans jU
   have eX7:=(jU.objs H.next (by omega)).trans bY
   by_cases jB:j<F
   ·have zM:j<fs.length:=by omega
    have Fj:p'+1+j<s.words.length:=by omega
    have a3:at? ((p':Int)+1+(j:Int)) s.words.length=some (p'+1+j):=by
     rw[show(p':Int)+1+(j:Int)=((p'+1+j:Nat):Int) by omega];exact bn Fj
    have qw:=JL xG Fj
    rw[wau]at qw
    have JP:=(zL.objs wr jb).trans uE
    have e7:=(jU.objs r hr).trans aC
    have ck:uD (aS s) fs[j]∧fs[j]<2^64∧s.words[p'+1+j]=fs[j]:=by
     have h:=xI j jB
     rw[wj zM,wi]at h
     have hq:da s.words (p'+1+j)=s.words[p'+1+j]:=by
      unfold da
      rw[wav,show((p':Int)+1+j).toNat=p'+1+j by omega,wj Fj];rfl
     rw[h]
     refine⟨Co j (by omega),?_,hq.symm⟩
     rw[hq]
     exact cd.words _ (wam Fj)
    have Cu:fs.take (j+1)=fs.take j++[fs[j]]:=by rw[wR,wj zM];rfl
    obtain⟨ck,kD,tT⟩:=ck
    rw[tT]at qw
    generalize fs[j]=u at*
    simp only[wV]at qw
    clear tT
    have tnw:((p':Int)+1+(j:Int)).toNat=p'+1+j:=by omega
    repeat'(first|(apply ak<;>intro)|apply bw|refine cO (fun _=>?_) (fun _=>?_)|refine aw 8 [Fx,Fx,Fx,Fx,Fx,Fx,Fx,Fx,Fx,Fx,Fx,Fx,Fx] ?_|refine aw 13 [Fx,Fx,Fx,Fx,Fx,Fx,Fx,Fx,Fx,Fx,Fx,Fx,Fx,Fx,Tx,Fx,Fx,Fx,Fx] ?_|refine aw 17 [Fx,Fx,Fx,Fx,Fx,Fx,Fx,Fx,Fx,Fx,Fx,Fx,Fx,Fx,Fx,Fx,Fx,Fx,Fx,Fx] ?_|refine aw 23 [Fx,Fx,Fx,Fx,Fx,Fx,Fx,Fx,Fx,Tx,Fx,Fx,Fx,Fx] ?_|((with_reducible show Qs _ _ _ _ _);first|refine ai _ _ _ _ ?_|refine aG _ _ _ ?_)|simp(disch:=omega)only[↓aa,ab,simprocAttr,sa,sI, *])
    all_goals try omega
    refine af.mono (Qk _ (by simp(disch:=omega)only[sm,sl,sI];omega) _ _ (Ck.ko (RInt.mono _) (jU.trans aj)) u kD ck) ?_
    rintro _ Z ⟨rfl,sZ⟩
    have kZ:Ko X7 Z:=Ko.call aj sZ
    have lZ:=sZ.lo;have nZ:=sZ.ag
    simp(disch:=omega)only[sm,sl,sI]at lZ nZ
    have eD:((fs.take (j+1)).map (eh (aS s))).flatMap bF=((fs.take j).map (eh (aS s))).flatMap bF++bF (eh (aS s) u):=by rw[Cu,waT,wbd];simp
    have z1:=(kZ.objs (H2.next+1) (by omega)).trans Cr
    have z2:=(kZ.objs H2.next (by omega)).trans Cs
    have z3:=(kZ.objs Y.next (by omega)).trans Ct
    generalize eh (aS s) u=tv at*
    obtain⟨Z2,xK,qh,gL,dB,oz,nD⟩:=qK (bytes:=16) (k:=1) (new:=bF tv) (nC.ko (H':=(Z.bU H.lo).newRow (bF tv)) aj) (by simp(disch:=omega)only[sm,sl,sI];omega) (by simp(disch:=omega)only[sm,sl,sI];omega) (by decide) rfl rfl (rn (by omega))
    obtain⟨eM,te⟩:=nD _ _ _ _ _ (xJ.ko (H':=(Z.bU H.lo).newRow (bF tv)) aj) JO
    have y1:=dB.alone _ _ _ (by simp(disch:=omega)only[sm,sl,sI];omega) ((by simp(disch:=omega)only[sm,sl,sI];exact z1):((Z.bU H.lo).newRow (bF tv)).objs.get (H2.next+1)=_)
    have y2:=dB.alone _ _ _ (by simp(disch:=omega)only[sm,sl,sI];omega) ((by simp(disch:=omega)only[sm,sl,sI];exact z2):((Z.bU H.lo).newRow (bF tv)).objs.get H2.next=_)
    have y3:=dB.alone _ _ _ (by simp(disch:=omega)only[sm,sl,sI];omega) ((by simp(disch:=omega)only[sm,sl,sI];exact z3):((Z.bU H.lo).newRow (bF tv)).objs.get Y.next=_)
    rw[←eD]at gL
    have mB:=dB.lo
    have jV:Ko Y Z2:=Down.ko dB.low (X:=Y) (jU.trans aj) (by omega)
    have kP:gA X7 Z2:=(Ko.ia (H':=(Z.bU H.lo).newRow (bF tv)) aj).trans dB.ia
    simp(disch:=omega)only[sm,sl,sI]at oz mB
    unfold bF at qh
    have Fh:=nC.sv
    simp only[az,aD]at gL
    clear nC xJ Cu nD eD
    repeat'(first|(apply ak<;>intro)|apply bw|refine cO (fun _=>?_) (fun _=>?_)|refine aw 8 [Fx,Fx,Fx,Fx,Fx,Fx,Fx,Fx,Fx,Fx,Fx,Fx,Fx] ?_|refine aw 13 [Fx,Fx,Fx,Fx,Fx,Fx,Fx,Fx,Fx,Fx,Fx,Fx,Fx,Fx,Tx,Fx,Fx,Fx,Fx] ?_|refine aw 17 [Fx,Fx,Fx,Fx,Fx,Fx,Fx,Fx,Fx,Fx,Fx,Fx,Fx,Fx,Fx,Fx,Fx,Fx,Fx,Fx] ?_|refine aw 23 [Fx,Fx,Fx,Fx,Fx,Fx,Fx,Fx,Fx,Tx,Fx,Fx,Fx,Fx] ?_|((with_reducible show Qs _ _ _ _ _);first|refine ai _ _ _ _ ?_|refine aG _ _ _ ?_)|simp(disch:=omega)only[↓aa,ab,simprocAttr,sa,sI,cw,iG,dW,cZ,sK, *])
    all_goals try omega
    refine hQ _ _ _ ?_ ⟨j+1,_,xK,rfl,?_,?_,trivial,trivial,by omega,gL.oy y1,eM.oy y1,te,(Cq.trans kP).trans (ox y1),by simp(disch:=omega)only[sm,sl,sI],by simp(disch:=omega)only[sm,sl,sI];exact y2,by simp(disch:=omega)only[sm,sl,sI];exact y3,by simp(disch:=omega)only[sm,sl,sI];omega,jV.setRow (by omega) _,by simp(disch:=omega)only[sm,sl,sI];omega⟩<;>exact aJ
   ·have ej:j=F:=by omega
    subst ej
    rw[wZ (by omega)]at nC
    have zN:eN cQ 2 X7 vf (fs.map (eh (aS s))):=nC.my (by rw[wO,td]) (by omega) xD
    obtain⟨va,vc,Cv⟩:=zN.form
    rw[wO,td]at Cv
    subst Cv
    clear nC
    repeat'(first|(apply ak<;>intro)|apply bw|refine cO (fun _=>?_) (fun _=>?_)|refine aw 8 [Fx,Fx,Fx,Fx,Fx,Fx,Fx,Fx,Fx,Fx,Fx,Fx,Fx] ?_|refine aw 13 [Fx,Fx,Fx,Fx,Fx,Fx,Fx,Fx,Fx,Fx,Fx,Fx,Fx,Fx,Tx,Fx,Fx,Fx,Fx] ?_|refine aw 17 [Fx,Fx,Fx,Fx,Fx,Fx,Fx,Fx,Fx,Fx,Fx,Fx,Fx,Fx,Fx,Fx,Fx,Fx,Fx,Fx] ?_|refine aw 23 [Fx,Fx,Fx,Fx,Fx,Fx,Fx,Fx,Fx,Tx,Fx,Fx,Fx,Fx] ?_|((with_reducible show Qs _ _ _ _ _);first|refine ai _ _ _ _ ?_|refine aG _ _ _ ?_)|simp(disch:=omega)only[↓aa,ab,simprocAttr,sa,sI, *])
    all_goals try omega
    refine bP X7 [1,2,5,7,8,9,11,13] (fun T9 H9 u9 j9 n9 l9 g9=>?_) jr
    try simp(disch:=omega)only[sm,sl,sI]at n9 l9 g9
    simp only[sq,simprocAttr]at u9
    refine bL kq (fun nn T X=>∃ (m:Nat) (vr:Value) (fr:Option (Nat×Nat)),nn=R-m∧(T.get 13=some (.int .i64 m))∧(T.get 1=T9.get 1∧T.get 2=T9.get 2∧T.get 5=T9.get 5∧T.get 7=T9.get 7∧T.get 8=T9.get 8∧T.get 9=T9.get 9∧T.get 11=T9.get 11)∧True∧True∧(m≤R∧b8 (Y.next+1) 1 X vr m ((rs.take m).map wV) fr∧b8 (Y.next+1) 3 X v i cs f∧pF fr f∧gA X7 X∧X.objs.get (H2.next+1)=some (.row [.int .i64 hd.kind,.slice va j vc,vr] none true)∧X.objs.get H2.next=some (.row [.int .i64 hd.kind,.int .i64 j,.int .i64 R,.bool hd.mark,.int .i64 hd.fu] none true)∧X.objs.get Y.next=some (.row [v,.slice none 0 0] none true)∧H2.next+2≤X.next∧Ko Y X∧X.lo=Y.lo)) ?_ ?_
    ·have b1:=(j9.objs H2.next (by omega)).trans Cs
     have b2:=(j9.objs (H2.next+1) (by omega)).trans Cr
     have b3:=(j9.objs Y.next (by omega)).trans Ct
     refine⟨_,0,.slice none 0 0,none,rfl,?_,?_,trivial,trivial,wJ _,b8.nil _ _ _,xJ.ko j9,trivial,j9.ia,b2,b1,b3,by omega,jU.trans j9,by omega⟩<;>exact aJ
    rintro nn Jj X9 ⟨m,vr,fr,rfl,m9,w9,_,_,hm,zO,JV,hD9,JW,b9n,b9h,Q8,sw,qj,lX9⟩ Qs hQ aG ai
    have Q9:=kY.trans qj
    have eX9:=(qj.objs H.next (by omega)).trans bY
    by_cases qL:m<R
    ·have An:m<rs.length:=by omega
     have JX:p'+1+j+m<s.words.length:=by omega
     have a3:at? ((p':Int)+1+(j:Int)+(m:Int)) s.words.length=some (p'+1+j+m):=by
      rw[show(p':Int)+1+(j:Int)+(m:Int)=((p'+1+j+m:Nat):Int) by omega];exact bn JX
     have tnw:((p':Int)+1+(j:Int)+(m:Int)).toNat=p'+1+j+m:=by omega
     have qw:=JL xG JX
     rw[wau]at qw
     have eW9:=(Q9.objs wr jb).trans uE
     have e9:=(qj.objs r hr).trans aC
     have tT:s.words[p'+1+j+m]=rs[m]:=by
      have e:rs[m]? =s.words[p'+1+j+m]? :=by rw[oV,wab,wF qL,wae]
      rw[wj An,wj JX,wi]at e
      exact e.symm
     rw[tT]at qw
     have eD:(rs.take (m+1)).map wV=(rs.take m).map wV++[wV rs[m]]:=by rw[wR,wj An,waT];rfl
     clear tT oV
     generalize rs[m]=u at*
     simp only[wV]at qw
     obtain⟨Z2,nR,qh,gL,dB,oz,nD⟩:=qK (bytes:=8) (k:=1) (new:=[wV u]) (zO.ko (H':=X9.newRow [wV u]) aj) (by simp(disch:=omega)only[sm,sl,sI];omega) (by simp(disch:=omega)only[sm,sl,sI];omega) (by decide) rfl rfl (mU (by omega))
     obtain⟨eM,te⟩:=nD _ _ _ _ _ (JV.ko (H':=X9.newRow [wV u]) aj) hD9
     have y1:=dB.alone _ _ _ (by simp(disch:=omega)only[sm,sl,sI];omega) ((by simp(disch:=omega)only[sm,sl,sI];exact b9n):(X9.newRow [wV u]).objs.get (H2.next+1)=_)
     have y2:=dB.alone _ _ _ (by simp(disch:=omega)only[sm,sl,sI];omega) ((by simp(disch:=omega)only[sm,sl,sI];exact b9h):(X9.newRow [wV u]).objs.get H2.next=_)
     have y3:=dB.alone _ _ _ (by simp(disch:=omega)only[sm,sl,sI];omega) ((by simp(disch:=omega)only[sm,sl,sI];exact Q8):(X9.newRow [wV u]).objs.get Y.next=_)
     rw[←eD]at gL
     have mB:=dB.lo
     have jV:Ko Y Z2:=Down.ko dB.low (X:=Y) (qj.trans aj) (by omega)
     have kP:gA X9 Z2:=(Ko.ia (H':=X9.newRow [wV u]) aj).trans dB.ia
     simp(disch:=omega)only[sm,sl,sI]at oz mB
     simp only[wV]at qh
     have Fh:=zO.sv
     simp only[az,aD]at gL
     clear zO JV nD eD
     repeat'(first|(apply ak<;>intro)|apply bw|refine cO (fun _=>?_) (fun _=>?_)|refine aw 8 [Fx,Fx,Fx,Fx,Fx,Fx,Fx,Fx,Fx,Fx,Fx,Fx,Fx] ?_|refine aw 13 [Fx,Fx,Fx,Fx,Fx,Fx,Fx,Fx,Fx,Fx,Fx,Fx,Fx,Fx,Tx,Fx,Fx,Fx,Fx] ?_|refine aw 17 [Fx,Fx,Fx,Fx,Fx,Fx,Fx,Fx,Fx,Fx,Fx,Fx,Fx,Fx,Fx,Fx,Fx,Fx,Fx,Fx] ?_|refine aw 23 [Fx,Fx,Fx,Fx,Fx,Fx,Fx,Fx,Fx,Tx,Fx,Fx,Fx,Fx] ?_|((with_reducible show Qs _ _ _ _ _);first|refine ai _ _ _ _ ?_|refine aG _ _ _ ?_)|simp(disch:=omega)only[↓aa,ab,simprocAttr,sa,sI,cw,iG,dW,sK, *])
     all_goals try omega
     refine hQ _ _ _ ?_ ⟨m+1,_,nR,rfl,?_,?_,trivial,trivial,by omega,gL.oy y1,eM.oy y1,te,(JW.trans kP).trans (ox y1),by simp(disch:=omega)only[sm,sl,sI],by simp(disch:=omega)only[sm,sl,sI];exact y2,by simp(disch:=omega)only[sm,sl,sI];exact y3,by simp(disch:=omega)only[sm,sl,sI];omega,jV.setRow (by omega) _,by simp(disch:=omega)only[sm,sl,sI];omega⟩<;>exact aJ
    ·have em:m=R:=by omega
     subst em
     rw[wZ (by omega)]at zO
     have iF:eN RW 1 X9 vr rs:=zO.my (by omega) (by omega) ⟨by simp,fun i x h=>⟨_,Es h,rfl⟩⟩
     obtain⟨ra,rc,Fk⟩:=iF.form
     rw[xH]at Fk
     subst Fk
     clear zO oV
     have z5:(X9.newRow [.int .i64 hd.kind,.slice va j vc,.slice ra m rc]).objs.get Y.next=some (.row [v,.slice none 0 0] none true):=by simp(disch:=omega)only[sm,sl,sI];exact Q8
     obtain⟨Z2,f2,qh,eM,dB,oz, -⟩:=qK (bytes:=56) (k:=1) (new:=[.int .i64 hd.kind,.slice va j vc,.slice ra m rc]) (JV.ko (H':=X9.newRow [.int .i64 hd.kind,.slice va j vc,.slice ra m rc]) aj) (by simp(disch:=omega)only[sm,sl,sI];omega) (by simp(disch:=omega)only[sm,sl,sI];omega) (by decide) rfl (by have:=zN.cell;have:=iF.cell;simp[*,Ek]) (JK (by omega))
     have kP:gA X9 Z2:=(Ko.ia (H':=X9.newRow [.int .i64 hd.kind,.slice va j vc,.slice ra m rc]) aj).trans dB.ia
     have y3:=dB.alone _ _ _ (by simp(disch:=omega)only[sm,sl,sI];omega) z5
     have mB:=dB.lo
     have jV:Ko Y Z2:=Down.ko dB.low (X:=Y) (qj.trans aj) (by omega)
     have pV:=((hE.g iz.mono ((Cq.trans JW).trans kP)).snoc (part:=[.int .i64 hd.kind,.slice va j vc,.slice ra m rc]) (x:=⟨hd.kind,fs.map (eh (aS s)),rs⟩) rfl ⟨_,_,rfl,zN.ext cQ.qg (JW.trans kP),iF.ext RW.qg kP⟩)
     have JS:cY iz 3 Z2 (cs++[.int .i64 hd.kind,.slice va j vc,.slice ra m rc]) (((aS s).take (i+1)).map (qd s.words (aS s))):=by rw[iy,waT,List.map_singleton,Cp];exact pV
     simp(disch:=omega)only[sm,sl,sI]at oz mB
     simp only[az,aF]at eM
     have hQ:=kI
     clear pV Cp iy
     repeat'(first|(apply ak<;>intro)|apply bw|refine cO (fun _=>?_) (fun _=>?_)|refine aw 8 [Fx,Fx,Fx,Fx,Fx,Fx,Fx,Fx,Fx,Fx,Fx,Fx,Fx] ?_|refine aw 13 [Fx,Fx,Fx,Fx,Fx,Fx,Fx,Fx,Fx,Fx,Fx,Fx,Fx,Fx,Tx,Fx,Fx,Fx,Fx] ?_|refine aw 17 [Fx,Fx,Fx,Fx,Fx,Fx,Fx,Fx,Fx,Fx,Fx,Fx,Fx,Fx,Fx,Fx,Fx,Fx,Fx,Fx] ?_|refine aw 23 [Fx,Fx,Fx,Fx,Fx,Fx,Fx,Fx,Fx,Tx,Fx,Fx,Fx,Fx] ?_|((with_reducible show Qs _ _ _ _ _);first|refine ai _ _ _ _ ?_|refine aG _ _ _ ?_)|simp(disch:=omega)only[↓aa,ab,simprocAttr,sa,sI,cw,iG,dW, *])
     all_goals try omega
     refine hQ _ _ _ ?_ ⟨i+1,_,_,f2,rfl,?_,?_,trivial,trivial,by omega,eM.oy y3,JS.g iz.mono (ox y3),by simp(disch:=omega)only[sm,sl,sI],by simp(disch:=omega)only[sm,sl,sI];omega,jV.setRow (wy _) _,by simp(disch:=omega)only[sm,sl,sI];omega⟩<;>exact aJ
  ·have ei:i=(aS s).length:=by omega
   rw[ei,waj]at hE
   repeat'(first|(apply ak<;>intro)|apply bw|refine cO (fun _=>?_) (fun _=>?_)|refine aw 8 [Fx,Fx,Fx,Fx,Fx,Fx,Fx,Fx,Fx,Fx,Fx,Fx,Fx] ?_|refine aw 13 [Fx,Fx,Fx,Fx,Fx,Fx,Fx,Fx,Fx,Fx,Fx,Fx,Fx,Fx,Tx,Fx,Fx,Fx,Fx] ?_|refine aw 17 [Fx,Fx,Fx,Fx,Fx,Fx,Fx,Fx,Fx,Fx,Fx,Fx,Fx,Fx,Fx,Fx,Fx,Fx,Fx,Fx] ?_|refine aw 23 [Fx,Fx,Fx,Fx,Fx,Fx,Fx,Fx,Fx,Tx,Fx,Fx,Fx,Fx] ?_|((with_reducible show Qs _ _ _ _ _);first|refine ai _ _ _ _ ?_|refine aG _ _ _ ?_)|simp(disch:=omega)only[↓aa,ab,simprocAttr,sa,sI, *])
   all_goals try omega
   refine bP X6 [1,2,5,7,14] (fun T8 H8 u8 j8 n8 l8 g8=>?_) jr
   try simp(disch:=omega)only[sm,sl,sI]at n8 l8 g8
   simp only[sq,simprocAttr]at u8
   refine bL kq (fun nn T X=>∃ (k:Nat) (vr:Value) (fr:Option (Nat×Nat)),nn=s.aI.length-k∧(T.get 14=some (.int .i64 k))∧(T.get 1=T8.get 1∧T.get 2=T8.get 2∧T.get 5=T8.get 5∧T.get 7=T8.get 7)∧True∧True∧(k≤s.aI.length∧b8 (Y.next+1) 2 X vr (fM (s.aI.take k) (aS s)).length ((fM (s.aI.take k) (aS s)).flatMap bF) fr∧b8 (Y.next+1) 3 X v i cs f∧pF fr f∧gA X6 X∧X.objs.get Y.next=some (.row [v,vr] none true)∧Y.next+1≤X.next∧Ko Y X∧X.lo=Y.lo)) ?_ ?_
   ·have b3:=(j8.objs Y.next (by omega)).trans Cm
    refine⟨_,0,.slice none 0 0,none,rfl,?_,?_,trivial,trivial,wJ _,b8.nil _ _ _,hO.ko j8,trivial,j8.ia,b3,by omega,kO.trans j8,by omega⟩<;>exact aJ
   rintro nn Q4 X8 ⟨k,vr,fr,rfl,m8,w8,_,_,hk,js,qi,Cw,xL,Cx,Q5,jW,Q6⟩ Qs hQ aG ai
   have Fi:=kY.trans jW
   have JT:=(jW.objs H.next (by omega)).trans bY
   by_cases fX:k<s.aI.length
   ·obtain⟨r,o,cells,gg,tt,part,rfl,hr,aC,aR,rfl⟩:=zq k s.aI[k] (by simp)
    have a1:=bn fX
    have e1:=(Fi.objs r hr).trans aC
    unfold qR at aR
    obtain⟨q0,q1,q2⟩:=yG aR
    have um:s.aI[k]∈s.aI:=wam fX
    have iy:s.aI.take (k+1)=s.aI.take k++[s.aI[k]]:=by rw[wR,wj fX];rfl
    have kD:=cd.aI _ um
    have ck:=L.slot _ um
    generalize s.aI[k]=x at*
    have jt:fM (s.aI.take (k+1)) (aS s)=if x.used=true then fM (s.aI.take k) (aS s)++[eh (aS s) x.word]else fM (s.aI.take k) (aS s):=by
     unfold fM
     rw[iy,List.filter_append,waT]
     cases hu:x.used<;>simp[hu]
    have rH:(fM (s.aI.take k) (aS s)).length≤k:=by
     unfold fM
     rw[wO]
     have:=wb5 (fun y:Slot=>y.used) (s.aI.take k)
     rw[wU]at this
     omega
    generalize fM (s.aI.take k) (aS s)=RL at*
    clear iy
    cases hu:x.used with
    |false=>
     rw[hu]at jt q0
     rw[wI (by simp)]at jt
     rw[←jt]at js
     clear jt aC aR
     repeat'(first|(apply ak<;>intro)|apply bw|refine cO (fun _=>?_) (fun _=>?_)|refine aw 8 [Fx,Fx,Fx,Fx,Fx,Fx,Fx,Fx,Fx,Fx,Fx,Fx,Fx] ?_|refine aw 13 [Fx,Fx,Fx,Fx,Fx,Fx,Fx,Fx,Fx,Fx,Fx,Fx,Fx,Fx,Tx,Fx,Fx,Fx,Fx] ?_|refine aw 17 [Fx,Fx,Fx,Fx,Fx,Fx,Fx,Fx,Fx,Fx,Fx,Fx,Fx,Fx,Fx,Fx,Fx,Fx,Fx,Fx] ?_|refine aw 23 [Fx,Fx,Fx,Fx,Fx,Fx,Fx,Fx,Fx,Tx,Fx,Fx,Fx,Fx] ?_|((with_reducible show Qs _ _ _ _ _);first|refine ai _ _ _ _ ?_|refine aG _ _ _ ?_)|simp(disch:=omega)only[↓aa,ab,simprocAttr,sa,sI, *])
     all_goals try omega
     refine hQ _ _ _ ?_ ⟨k+1,_,fr,rfl,?_,?_,trivial,trivial,by omega,js,qi,Cw,xL,Cx,by omega,jW,by omega⟩<;>exact aJ
    |true=>
     rw[hu]at jt q0
     rw[wF rfl]at jt
     clear aC aR
     repeat'(first|(apply ak<;>intro)|apply bw|refine cO (fun _=>?_) (fun _=>?_)|refine aw 8 [Fx,Fx,Fx,Fx,Fx,Fx,Fx,Fx,Fx,Fx,Fx,Fx,Fx] ?_|refine aw 13 [Fx,Fx,Fx,Fx,Fx,Fx,Fx,Fx,Fx,Fx,Fx,Fx,Fx,Fx,Tx,Fx,Fx,Fx,Fx] ?_|refine aw 17 [Fx,Fx,Fx,Fx,Fx,Fx,Fx,Fx,Fx,Fx,Fx,Fx,Fx,Fx,Fx,Fx,Fx,Fx,Fx,Fx] ?_|refine aw 23 [Fx,Fx,Fx,Fx,Fx,Fx,Fx,Fx,Fx,Tx,Fx,Fx,Fx,Fx] ?_|((with_reducible show Qs _ _ _ _ _);first|refine ai _ _ _ _ ?_|refine aG _ _ _ ?_)|simp(disch:=omega)only[↓aa,ab,simprocAttr,sa,sI, *])
     all_goals try omega
     refine af.mono (Qk _ (by simp(disch:=omega)only[sm,sl,sI];omega) _ _ (Ck.ko (RInt.mono _) (jW.trans aj)) x.word kD (ck hu)) ?_
     rintro _ Z ⟨rfl,sZ⟩
     have kZ:Ko X8 Z:=Ko.call aj sZ
     have lZ:=sZ.lo;have nZ:=sZ.ag
     simp(disch:=omega)only[sm,sl,sI]at lZ nZ
     have z3:=(kZ.objs Y.next (by omega)).trans Cx
     have eD:(RL++[eh (aS s) x.word]).flatMap bF=RL.flatMap bF++bF (eh (aS s) x.word):=by rw[wbd];simp
     generalize eh (aS s) x.word=tv at*
     obtain⟨Z2,xK,qh,gL,dB,oz,nD⟩:=qK (bytes:=16) (k:=1) (new:=bF tv) (js.ko (H':=(Z.bU H.lo).newRow (bF tv)) aj) (by simp(disch:=omega)only[sm,sl,sI];omega) (by simp(disch:=omega)only[sm,sl,sI];omega) (by decide) rfl rfl (rn (by omega))
     obtain⟨eM,te⟩:=nD _ _ _ _ _ (qi.ko (H':=(Z.bU H.lo).newRow (bF tv)) aj) Cw
     have y3:=dB.alone _ _ _ (by simp(disch:=omega)only[sm,sl,sI];omega) ((by simp(disch:=omega)only[sm,sl,sI];exact z3):((Z.bU H.lo).newRow (bF tv)).objs.get Y.next=_)
     have mB:=dB.lo
     have jV:Ko Y Z2:=Down.ko dB.low (X:=Y) (jW.trans aj) (by omega)
     have kP:gA X8 Z2:=(Ko.ia (H':=(Z.bU H.lo).newRow (bF tv)) aj).trans dB.ia
     rw[←eD,←jt]at gL
     have iQ:RL.length+1=(fM (s.aI.take (k+1)) (aS s)).length:=by rw[jt,wN];rfl
     rw[iQ]at gL
     simp(disch:=omega)only[sm,sl,sI]at oz mB
     unfold bF at qh
     have Fh:=js.sv
     clear js qi nD eD
     clear jt
     simp only[az,aD]at gL
     repeat'(first|(apply ak<;>intro)|apply bw|refine cO (fun _=>?_) (fun _=>?_)|refine aw 8 [Fx,Fx,Fx,Fx,Fx,Fx,Fx,Fx,Fx,Fx,Fx,Fx,Fx] ?_|refine aw 13 [Fx,Fx,Fx,Fx,Fx,Fx,Fx,Fx,Fx,Fx,Fx,Fx,Fx,Fx,Tx,Fx,Fx,Fx,Fx] ?_|refine aw 17 [Fx,Fx,Fx,Fx,Fx,Fx,Fx,Fx,Fx,Fx,Fx,Fx,Fx,Fx,Fx,Fx,Fx,Fx,Fx,Fx] ?_|refine aw 23 [Fx,Fx,Fx,Fx,Fx,Fx,Fx,Fx,Fx,Tx,Fx,Fx,Fx,Fx] ?_|((with_reducible show Qs _ _ _ _ _);first|refine ai _ _ _ _ ?_|refine aG _ _ _ ?_)|simp(disch:=omega)only[↓aa,ab,simprocAttr,sa,sI,cw,iG,dW,cZ,sK, *])
     all_goals try omega
     refine hQ _ _ _ ?_ ⟨k+1,_,xK,rfl,?_,?_,trivial,trivial,by omega,gL.oy y3,eM.oy y3,te,(xL.trans kP).trans (ox y3),by simp(disch:=omega)only[sm,sl,sI],by simp(disch:=omega)only[sm,sl,sI];omega,jV.setRow (wy _) _,by simp(disch:=omega)only[sm,sl,sI];omega⟩<;>exact aJ
   ·have ek:k=s.aI.length:=by omega
    rw[ek,waj]at js
    have zm:=(jW.objs (H.next+1) (by omega)).trans kM
    have Cy:fM s.aI (aS s)=(fB s).roots:=rfl
    have Cz:(aS s).map (qd s.words (aS s))=(fB s).nodes:=rfl
    have rH:(fB s).roots.length≤100000:=by
     rw[←Cy]
     unfold fM
     rw[wO]
     have:=wb5 (fun y:Slot=>y.used) s.aI
     omega
    rw[Cy]at js
    rw[Cz]at hE
    have g1:eN iz 3 X8 v (fB s).nodes:=qi.my (by rw[←Cz,wO,ei]) (by omega) (hE.g iz.mono xL)
    have g2:eN cQ 2 X8 vr (fB s).roots:=js.my rfl (by omega) xD
    have uF:=ox (c':=[v,vr]) zm
    have hG:eg (X8.setRow (H.next+1) [v,vr]) v vr (fB s):=⟨(g1.ext iz.mono uF).qX.imp fun _ _ h=>h.nd,(g2.ext cQ.qg uF).qX⟩
    have hI:=QW (c:=[v,vr]) (Ck.ko (RInt.mono _) jW) zm (fun _ q=>by cases q) (fun _ q=>by cases q)
    obtain⟨_,_,hv⟩:=g1.form
    obtain⟨_,_,JU⟩:=g2.form
    subst hv JU
    clear g1 g2 js qi hE hO
    repeat'(first|(apply ak<;>intro)|apply bw|refine cO (fun _=>?_) (fun _=>?_)|refine aw 8 [Fx,Fx,Fx,Fx,Fx,Fx,Fx,Fx,Fx,Fx,Fx,Fx,Fx] ?_|refine aw 13 [Fx,Fx,Fx,Fx,Fx,Fx,Fx,Fx,Fx,Fx,Fx,Fx,Fx,Fx,Tx,Fx,Fx,Fx,Fx] ?_|refine aw 17 [Fx,Fx,Fx,Fx,Fx,Fx,Fx,Fx,Fx,Fx,Fx,Fx,Fx,Fx,Fx,Fx,Fx,Fx,Fx,Fx] ?_|refine aw 23 [Fx,Fx,Fx,Fx,Fx,Fx,Fx,Fx,Fx,Tx,Fx,Fx,Fx,Fx] ?_|((with_reducible show Qs _ _ _ _ _);first|refine ai _ _ _ _ ?_|refine aG _ _ _ ?_)|simp(disch:=omega)only[↓aa,ab,simprocAttr,sa,sI, *])
    all_goals try omega
    refine⟨?_,aA⟩
    first|exact⟨fun _=>⟨_,_,_,rfl,hG,hI⟩,fun q=>q.elim⟩|exact⟨fun _=>⟨_,_,_,rfl,hG,hI⟩,fun q=>absurd rfl q⟩
 ·have e:=mA h0
  clear mz mA
  subst e
  repeat'(first|(apply ak<;>intro)|apply bw|refine cO (fun _=>?_) (fun _=>?_)|refine aw 8 [Fx,Fx,Fx,Fx,Fx,Fx,Fx,Fx,Fx,Fx,Fx,Fx,Fx] ?_|refine aw 13 [Fx,Fx,Fx,Fx,Fx,Fx,Fx,Fx,Fx,Fx,Fx,Fx,Fx,Fx,Tx,Fx,Fx,Fx,Fx] ?_|refine aw 17 [Fx,Fx,Fx,Fx,Fx,Fx,Fx,Fx,Fx,Fx,Fx,Fx,Fx,Fx,Fx,Fx,Fx,Fx,Fx,Fx] ?_|refine aw 23 [Fx,Fx,Fx,Fx,Fx,Fx,Fx,Fx,Fx,Tx,Fx,Fx,Fx,Fx] ?_|((with_reducible show Qs _ _ _ _ _);first|refine ai _ _ _ _ ?_|refine aG _ _ _ ?_)|simp(disch:=omega)only[↓aa,ab,simprocAttr,sa, *])
  all_goals try omega
  refine⟨?_,aA⟩
  first|exact⟨fun q=>absurd q h0,fun _=>rfl⟩|exact⟨fun q=>q.elim,fun _=>trivial⟩
end Go.AM
