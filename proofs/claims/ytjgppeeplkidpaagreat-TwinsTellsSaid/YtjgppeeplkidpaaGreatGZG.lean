/-
  Walks over letters of the functions that the law reaches; written small by a program of mine.
-/
import Derived.Test.YtjgppeeplkidpaaGreatGYK
set_option linter.unusedVariables false
set_option linter.unusedSectionVars false
namespace Go.AM
attribute [local instance] fnMaps
open Go Go.Proofs
set_option maxRecDepth 100000
set_option maxHeartbeats 4000000
set_option linter.unusedSimpArgs false
theorem zhH{l:List Int}(h:l.Nodup){i:Nat}(hi:i<l.length):l[i]∉l.take i:=fun hm=>by
 obtain⟨j,hj,e⟩:=wbL.1 hm
 rw[wU]at hj
 rw[List.getElem_take]at e
 have:=(List.getElem_inj h).1 e
 omega
theorem QY(H:Heap)(an:H.lo≤H.next){s:St}{w t f zl:Value}(hS:eK H s w t f zl)(Fe:s.words≠[]→Gz 1 H w)(cd:nj s)(hl:s.words.length≤400)(jI:s.table.length≤100)(fH:s.aI.length≤100000):af E (aK 27) [cz s w t f zl] H fun r H'=>
  ((dR s=0→∃ x y v,r= .tuple #[.agg #[x,y],v,.int .i64 0]∧eg H' x y (fB s)∧SLr (RInt .i64) 1 H' v (aS s))∧(dR s≠0→r= .tuple #[.agg #[.slice none 0 0,.slice none 0 0],.slice none 0 0,.int .i64 4]))∧aq H H':=by
 have c1:=fun(X:Heap) (hx:X.lo≤X.next) (k:Ko H X)=>zgv X hx (hS.ko k) cd hl jI
 have c2:=fun(X:Heap) (hx:X.lo≤X.next) (k:Ko H X)=>zgs X hx (hS.ko k) cd.words
 have oP:=hS
 obtain⟨⟨wa,wc,rfl,⟨JM,Jc⟩,_⟩,_⟩:=hS.w
 obtain⟨⟨ta,tc,rfl,_⟩,_⟩:=hS.t
 obtain⟨⟨fa,fc,rfl,_⟩,_⟩:=hS.f
 obtain⟨⟨za,zc,rfl,⟨_,Qn⟩,zq⟩,_⟩:=hS.sl
 clear hS
 unfold cz at c1 c2
 refine aV Tryz.f27 ?_
 simp only[Tryz.f27]
 unfold cz
 simp(disch:=omega)only[↓aa,ab,simprocAttr,sa, *]
 refine af.mono (c1 _ ah aj) ?_
 rintro _ Y ⟨⟨mz,mA⟩,sY⟩
 have kY:Ko H Y:=Ko.call aj sY
 have lY:=sY.lo;have nY:=sY.ag;have gY:=sY.objs
 simp(disch:=omega)only[sm,sl,sI]at lY nY gY
 have bY:=gY H.next (by omega)
 have kM:=gY (H.next+1) (by omega)
 simp(disch:=omega)only[sm,sl,sI]at bY kM
 clear sY gY c1
 by_cases h0:dR s=0
 ·obtain⟨vp,rfl,hP⟩:=mz h0
  have L:=zI h0
  have cF:(aS s).length≤1000000:=E9 (by omega) (by omega)
  have Ck:=hP
  obtain⟨⟨pa,pc,rfl,⟨_,pm⟩,pD⟩, -⟩:=hP
  clear mz mA
  simp(disch:=omega)only[↓aa,ab,simprocAttr,sa,sI, *]
  all_goals try omega
  refine bP Y [1,2,5,7,32,33,34] (fun T5 H5 u5 j5 n5 l5 g5=>?_) jr
  try simp(disch:=omega)only[sm,sl,sI]at n5 l5 g5
  simp only[sq,simprocAttr]at u5
  refine bL kq (fun nn T X=>∃ (i:Nat),nn=(aS s).length-i∧(T.get 34=some (.int .i64 i))∧(T.get 1=T5.get 1∧T.get 2=T5.get 2∧T.get 5=T5.get 5∧T.get 7=T5.get 7∧T.get 32=T5.get 32∧T.get 33=T5.get 33)∧True∧True∧(i≤(aS s).length∧X.objs.get Y.next=some (.map (jq ((aS s).take i) 0))∧X.objs.get (Y.next+1)=some (.row [.map (some Y.next)] none true)∧Y.next+2≤X.next∧Ko Y X∧X.lo=Y.lo)) ?_ ?_
  ·have b1:=g5 Y.next
   have b2:=g5 (Y.next+1)
   rw[au (show Y.next≠Y.next+1 by omega),wS,wS,cr rfl,wai]at b1
   rw[cr rfl,wai]at b2
   refine⟨_,0,rfl,?_,?_,trivial,trivial,wJ _,b1,b2,by omega,j5,l5⟩<;>exact aJ
  rintro nn zk X5 ⟨i,rfl,m5,w5,_,_,hi,hM,hB,hn2,kX,lX⟩ Qs hQ aG ai
  by_cases hlt:i<(aS s).length
  ·obtain⟨r,o,cells,gg,tt,part,rfl,hr,aC,aR,rfl⟩:=pD i (aS s)[i] (by simp)
   have a1:=bn hlt
   have e1:=(kX.objs r hr).trans aC
   have q0:=jS aR
   have Cl:=P2 (H:=X5) (r:=Y.next) (by omega) (zhH L.nodup hlt)
   have iy:(aS s).take (i+1)=(aS s).take i++[(aS s)[i]]:=by rw[wR,wj hlt];rfl
   rw[←iy,wU,waS (by omega)]at Cl
   generalize (aS s)[i]=p at*
   clear iy
   repeat'(first|(apply ak<;>intro)|((with_reducible show Qs _ _ _ _ _);refine ai _ _ _ _ ?_)|simp(disch:=omega)only[↓aa,ab,simprocAttr,sa,sI,P1, *])
   all_goals first|(refine hQ _ _ _ ?_ ⟨i+1,rfl,?_,?_,trivial,trivial,by omega,by simp(disch:=omega)only[sm,sl,sI],by simp(disch:=omega)only[sm,sl,sI];exact hB,by simp(disch:=omega)only[sm,sl,sI];omega,jr,by simp(disch:=omega)only[sm,sl,sI];omega⟩<;>exact aJ)|omega|trace_state
  ·rw[wZ (by omega)]at hM
   have eX:=(kX.objs H.next (by omega)).trans bY
   have zm:=(kX.objs (H.next+1) (by omega)).trans kM
   have pX:Ko H X5:=kY.trans kX
   repeat'(first|(apply ak<;>intro)|((with_reducible show Qs _ _ _ _ _);refine ai _ _ _ _ ?_)|simp(disch:=omega)only[↓aa,ab,simprocAttr,sa,sI, *])
   all_goals try omega
   refine bP X5 [1,2,5,10,11,44,45,46] (fun T6 H6 u6 j6 n6 l6 g6=>?_) jr
   try simp(disch:=omega)only[sm,sl,sI]at n6 l6 g6
   simp only[sq,simprocAttr]at u6
   refine bL kq (fun nn T X=>∃ (i:Nat) (v:Value) (cs:List Value) (f:Option (Nat×Nat)),nn=(aS s).length-i∧(T.get 46=some (.int .i64 i))∧(T.get 1=T6.get 1∧T.get 2=T6.get 2∧T.get 5=T6.get 5∧T.get 10=T6.get 10∧T.get 11=T6.get 11∧T.get 44=T6.get 44∧T.get 45=T6.get 45)∧True∧True∧(i≤(aS s).length∧b8 (X5.next+1) 3 X v i cs f∧cY iz 3 X cs (((aS s).take i).map (qd s.words (aS s)))∧X.objs.get X5.next=some (.row [v,.slice none 0 0] none true)∧X5.next+1≤X.next∧Ko X5 X∧X.lo=X5.lo)) ?_ ?_
   ·have b1:=g6 X5.next
    rw[cr rfl,wai]at b1
    refine⟨_,0,.slice none 0 0,List.nil,none,rfl,?_,?_,trivial,trivial,wJ _,b8.nil _ _ _,cY.nil _ _ _,b1,by omega,j6,l6⟩<;>exact aJ
   rintro nn I6 X6 ⟨i,v,cs,f,rfl,m6,w6,_,_,hi,hO,hE,Cm,QZ,kO,I8⟩ Qs hQ aG ai
   have rA:=pX.trans kO
   have JN:=(kO.objs H.next (by omega)).trans eX
   by_cases hlt:i<(aS s).length
   ·obtain⟨r,o,cells,gg,tt,part,rfl,hr,aC,aR,rfl⟩:=pD i (aS s)[i] (by simp)
    have a1:=bn hlt
    have e1:=(kO.objs r (by have:=kX.ag;omega)).trans ((kX.objs r hr).trans aC)
    have q0:=jS aR
    have Cn:(aS s)[i]∈aS s:=wam hlt
    have iy:(aS s).take (i+1)=(aS s).take i++[(aS s)[i]]:=by rw[wR,wj hlt];rfl
    generalize (aS s)[i]=p at*
    have nk:=L.obj p Cn
    have Co:=L.vE p Cn
    obtain⟨h1,h2,h3,h4,h5⟩:=kx nk
    have h6:=ku h3
    have bf:ct (aU s.words p)=1+(aU s.words p).fields+(aU s.words p).bC:=by unfold ct;rw[wF h3]
    have c3:=fun(X:Heap) (hx:X.lo≤X.next) (k:Ko H X)=>c2 X hx k p nk
    obtain⟨p',rfl⟩:=wbz h1
    have Ff:s.words≠[]:=fun e=>by rw[e]at h2;simp at h2;omega
    obtain⟨wr,E1,zhI,wg,wt,ew,jb,uE,xG⟩:=QV oP.w Ff
    simp only[waq,wbT]at ew
    obtain⟨rfl,rfl⟩:=ew
    have fS:=(yF xG).2.1
    have eW:=(rA.objs wr jb).trans uE
    obtain⟨td,xH⟩:=JE nk
    have xI:=fun k=>JF (k:=k) nk
    have Fg:qb s.words p'=(s.words.drop (p'+1)).take (aU s.words p').fields.toNat:=rfl
    have oV:rz s.words p'=(s.words.drop (p'+1+(aU s.words p').fields.toNat)).take (aU s.words p').bC.toNat:=rfl
    have Cp:qd s.words (aS s) p'=⟨(aU s.words p').kind,(qb s.words p').map (eh (aS s)),rz s.words p'⟩:=rfl
    clear h5 nk h3
    generalize aU s.words p'=hd at*
    generalize qb s.words p'=fs at*
    generalize rz s.words p'=rs at*
    obtain⟨F,hF⟩:∃ F:Nat,hd.fields=F:=⟨hd.fields.toNat,by omega⟩
    obtain⟨R,hR⟩:∃ R:Nat,hd.bC=R:=⟨hd.bC.toNat,by omega⟩
    simp only[bO,hF,hR]at c3
    rw[hF]at Co td xI oV Fg h6 bf
    rw[hR]at xH oV h6 bf
    simp only[waD]at td xH xI oV Fg
    have Q0:=Fe Ff _ _ _ rfl _ _ _ uE
    obtain⟨o1,sl1,Q1⟩:=QX (r:=wr) (t:=wt) (c:=wc) (l:=p'+1) (k:=F) Q0 xG (by omega) JM
    obtain⟨o2,sl2,Q2⟩:=QX (r:=wr) (t:=wt) (c:=wc) (l:=p'+1+F) (k:=R) Q0 xG (by omega) JM
    rw[←Fg]at Q1
    rw[←oV]at Q2
    have tn1:((p':Int)+1).toNat=p'+1:=by omega
    have tn2:((p':Int)+1+F).toNat=p'+1+F:=by omega
    have tn3:((p':Int)+1+F+R).toNat=p'+1+F+R:=by omega
    repeat'(first|(apply ak<;>intro)|((with_reducible show af _ _ _ _ _);refine ao X6 (c3 _ ah (rA.trans aj)) ?_;intro H2 k2 l2 n2 g2 q2;try simp(disch:=omega)only[sm,sl,sI]at l2 n2 g2 q2)|((with_reducible show Qs _ _ _ _ _);refine ai _ _ _ _ ?_)|simp(disch:=omega)only[↓aa,ab,simprocAttr,sa,sI, *])
    all_goals try omega
    have kI:=hQ
    refine bP X6 [1,2,5,10,11,14,16,17,44,45,46,69,70,71] (fun T7 H7 u7 j7 n7 l7 g7=>?_) jr
    try simp(disch:=omega)only[sm,sl,sI]at n7 l7 g7
    simp only[sq,simprocAttr]at u7
    refine bL kq (fun nn T X=>∃ (j:Nat) (vf:Value) (ff:Option (Nat×Nat)),nn=F-j∧(T.get 71=some (.int .i64 j))∧(T.get 1=T7.get 1∧T.get 2=T7.get 2∧T.get 5=T7.get 5∧T.get 10=T7.get 10∧T.get 11=T7.get 11∧T.get 14=T7.get 14∧T.get 16=T7.get 16∧T.get 17=T7.get 17∧T.get 44=T7.get 44∧T.get 45=T7.get 45∧T.get 46=T7.get 46∧T.get 69=T7.get 69∧T.get 70=T7.get 70)∧True∧True∧(j≤F∧b8 (X5.next+1) 2 X vf j (((fs.take j).map (eh (aS s))).flatMap bF) ff∧b8 (X5.next+1) 3 X v i cs f∧pF ff f∧gA X6 X∧X.objs.get (H2.next+1)=some (.row [.int .i64 hd.kind,vf,.slice none 0 0] none true)∧X.objs.get H2.next=some (.row [.int .i64 hd.kind,.int .i64 F,.int .i64 R,.bool hd.mark,.int .i64 hd.fu] none true)∧X.objs.get X5.next=some (.row [v,.slice none 0 0] none true)∧H2.next+2≤X.next∧Ko X5 X∧X.lo=X5.lo)) ?_ ?_
    ·have b1:=g7 H2.next
     have b2:=g7 (H2.next+1)
     have b3:=(j7.objs X5.next (by omega)).trans Cm
     simp(disch:=omega)only[sm,sl,sI]at b1 b2
     refine⟨_,0,.slice none 0 0,none,rfl,?_,?_,trivial,trivial,wJ _,b8.nil _ _ _,hO.ko j7,trivial,j7.ia,b2,b1,b3,by omega,kO.trans j7,by omega⟩<;>exact aJ
    rintro nn I9 X7 ⟨j,vf,ff,rfl,m7,w7,_,_,hj,nC,xJ,JO,Cq,Cr,Cs,Ct,Q3,jU,Jb⟩ Qs hQ aG ai
    have zL:=pX.trans jU
    by_cases jB:j<F
    ·have zM:j<fs.length:=by omega
     have a2:=bn jB
     have qw:=JL Q1 zM
     have JP:=(zL.objs wr jb).trans uE
     have ck:uD (aS s) fs[j]∧fs[j]<2^64:=by
      have h:=xI j jB
      rw[wj zM,wi]at h
      rw[h]
      refine⟨Co j (by omega),?_⟩
      unfold da
      rw[wav]
      cases hc:s.words[((p':Int)+1+j).toNat]? with
      |none=>simp
      |some w=>exact cd.words w (wag hc)
     have Cu:fs.take (j+1)=fs.take j++[fs[j]]:=by rw[wR,wj zM];rfl
     have JQ:=(jU.objs (Y.next+1) (by omega)).trans hB
     have JR:=(jU.objs Y.next (by omega)).trans hM
     obtain⟨ck,kD⟩:=ck
     generalize fs[j]=u at*
     simp only[wV]at qw
     repeat'(first|(apply ak<;>intro)|refine aw 21 [Fx,Fx,Fx,Fx,(false,[],[(60,(75,76))]),Fx,Fx,Fx,Fx] ?_|((with_reducible show Qs _ _ _ _ _);refine ai _ _ _ _ ?_)|simp(disch:=omega)only[↓aa,ab,simprocAttr,sa,sI, *])
     all_goals try omega
     refine af.mono (P3 _ (by omega) JQ JR (by omega) (by omega) u kD ck) ?_
     rintro _ Z ⟨rfl,sZ⟩
     have kZ:=sZ.ko
     have lZ:=sZ.lo;have nZ:=sZ.ag
     have eD:((fs.take (j+1)).map (eh (aS s))).flatMap bF=((fs.take j).map (eh (aS s))).flatMap bF++bF (eh (aS s) u):=by rw[Cu,waT,wbd];simp
     have z1:=(sZ.objs (H2.next+1) (by omega)).trans Cr
     have z2:=(sZ.objs H2.next (by omega)).trans Cs
     have z3:=(sZ.objs X5.next (by omega)).trans Ct
     generalize eh (aS s) u=tv at*
     obtain⟨Z2,xK,qh,gL,dB,oz,nD⟩:=qK (bytes:=16) (k:=1) (new:=bF tv) (nC.ko (H':=Z.newRow (bF tv)) aj) (by simp(disch:=omega)only[sm,sl,sI];omega) (by simp(disch:=omega)only[sm,sl,sI];omega) (by decide) rfl rfl (rn (by omega))
     obtain⟨eM,te⟩:=nD _ _ _ _ _ (xJ.ko (H':=Z.newRow (bF tv)) aj) JO
     have y1:=dB.alone _ _ _ (by simp(disch:=omega)only[sm,sl,sI];omega) ((by simp(disch:=omega)only[sm,sl,sI];exact z1):(Z.newRow (bF tv)).objs.get (H2.next+1)=_)
     have y2:=dB.alone _ _ _ (by simp(disch:=omega)only[sm,sl,sI];omega) ((by simp(disch:=omega)only[sm,sl,sI];exact z2):(Z.newRow (bF tv)).objs.get H2.next=_)
     have y3:=dB.alone _ _ _ (by simp(disch:=omega)only[sm,sl,sI];omega) ((by simp(disch:=omega)only[sm,sl,sI];exact z3):(Z.newRow (bF tv)).objs.get X5.next=_)
     rw[←eD]at gL
     have mB:=dB.lo
     have jV:Ko X5 Z2:=Down.ko dB.low (X:=X5) (jU.trans aj) (by omega)
     have kP:gA X7 Z2:=(Ko.ia (H':=Z.newRow (bF tv)) aj).trans dB.ia
     simp(disch:=omega)only[sm,sl,sI]at oz mB
     unfold bF at qh
     have Fh:=nC.sv
     clear nC xJ Cu nD eD
     simp(disch:=omega)only[↓aa,ab,simprocAttr,sa,sI,cw,iG,dW,cZ,sK, *]
     all_goals try omega
     simp only[az]at gL
     refine hQ _ _ _ ?_ ⟨j+1,_,xK,rfl,?_,?_,trivial,trivial,by omega,gL.oy y1,eM.oy y1,te,(Cq.trans kP).trans (ox y1),by simp(disch:=omega)only[sm,sl,sI],by simp(disch:=omega)only[sm,sl,sI];exact y2,by simp(disch:=omega)only[sm,sl,sI];exact y3,by simp(disch:=omega)only[sm,sl,sI];omega,jV.setRow (by omega) _,by simp(disch:=omega)only[sm,sl,sI];omega⟩<;>exact aJ
    ·have ej:j=F:=by omega
     subst ej
     rw[wZ (by omega)]at nC
     subst xH
     have JP:=(zL.objs wr jb).trans uE
     have zN:eN cQ 2 X7 vf (fs.map (eh (aS s))):=nC.my (by rw[wO,td]) (by omega) xD
     obtain⟨va,vc,Cv⟩:=zN.form
     rw[wO,td]at Cv
     subst Cv
     have cvf:=nC.cell
     clear nC oV Fg
     have eX7:=(jU.objs H.next (by omega)).trans eX
     repeat'(first|(apply ak<;>intro)|((with_reducible show Qs _ _ _ _ _);refine ai _ _ _ _ ?_)|simp(disch:=omega)only[↓aa,ab,simprocAttr,sa,sI, *])
     all_goals try omega
     refine af.mono (zhG _ (by omega) (by have:=zL.ag;omega) JP rs Q2 (by omega)) ?_
     rintro rw Z ⟨hRZ,sZ⟩
     have iF:eN RW 1 Z rw rs:=hRZ.my rfl ⟨by simp,fun i x h=>⟨_,Es h,rfl⟩⟩
     obtain⟨ra,rc,rfl⟩:=iF.form
     have crw:=iF.cell
     have kZ:=sZ.ko
     have kXZ:=jU.trans kZ
     have lZ:=sZ.lo;have nZ:=sZ.ag
     have z1:=(sZ.objs (H2.next+1) (by omega)).trans Cr
     have z2:=(sZ.objs H2.next (by omega)).trans Cs
     have z3:=(sZ.objs X5.next (by omega)).trans Ct
     have z4:=ox (c':=[.int .i64 hd.kind,(.slice va j vc),(.slice ra rs.length rc)]) z1
     have z5:((Z.setRow (H2.next+1) [.int .i64 hd.kind,(.slice va j vc),(.slice ra rs.length rc)]).newRow [.int .i64 hd.kind,(.slice va j vc),(.slice ra rs.length rc)]).objs.get X5.next=some (.row [v,.slice none 0 0] none true):=by simp(disch:=omega)only[sm,sl,sI];exact z3
     obtain⟨Z2,f2,qh,eM,dB,oz, -⟩:=qK (bytes:=56) (k:=1) (new:=[.int .i64 hd.kind,(.slice va j vc),(.slice ra rs.length rc)]) (((xJ.ko kZ).oy (c':=[.int .i64 hd.kind,(.slice va j vc),(.slice ra rs.length rc)]) z1).ko (H':=(Z.setRow (H2.next+1) [.int .i64 hd.kind,(.slice va j vc),(.slice ra rs.length rc)]).newRow [.int .i64 hd.kind,(.slice va j vc),(.slice ra rs.length rc)]) aj) (by simp(disch:=omega)only[sm,sl,sI];omega) (by simp(disch:=omega)only[sm,sl,sI];omega) (by decide) rfl (by simp[cvf,crw,Ek]) (JK (by omega))
     have kP:gA Z Z2:=(z4.trans (Ko.ia (H':=(Z.setRow (H2.next+1) [.int .i64 hd.kind,(.slice va j vc),(.slice ra rs.length rc)]).newRow [.int .i64 hd.kind,(.slice va j vc),(.slice ra rs.length rc)]) aj)).trans dB.ia
     have y3:=dB.alone _ _ _ (by simp(disch:=omega)only[sm,sl,sI];omega) z5
     have mB:=dB.lo
     have jV:Ko X5 Z2:=Down.ko dB.low (X:=X5) aj (by omega)
     have pV:=((hE.g iz.mono ((Cq.trans kZ.ia).trans kP)).snoc (part:=[.int .i64 hd.kind,(.slice va j vc),(.slice ra rs.length rc)]) (x:=⟨hd.kind,fs.map (eh (aS s)),rs⟩) rfl ⟨_,_,rfl,zN.ext cQ.qg (kZ.ia.trans kP),iF.ext RW.qg kP⟩)
     rw[←Cp,show ∀a,((aS s).take i).map (qd s.words (aS s))++[a]=((aS s).take i).map (qd s.words (aS s))++[a]from fun _=>rfl]at pV
     simp(disch:=omega)only[sm,sl,sI]at oz mB
     have hQ:=kI
     have JS:cY iz 3 Z2 (cs++[.int .i64 hd.kind,.slice va j vc,.slice ra rs.length rc]) (((aS s).take (i+1)).map (qd s.words (aS s))):=by rw[iy,waT];exact pV
     simp only[az,aF]at eM
     clear pV
     simp(disch:=omega)only[↓aa,ab,simprocAttr,sa,sI,cw,iG,dW, *]
     all_goals try omega
     clear Cp iy
     refine hQ _ _ _ ?_ ⟨i+1,_,_,f2,rfl,?_,?_,trivial,trivial,by omega,eM.oy y3,JS.g iz.mono (ox y3),by simp(disch:=omega)only[sm,sl,sI],by simp(disch:=omega)only[sm,sl,sI];omega,jV.setRow (wy _) _,by simp(disch:=omega)only[sm,sl,sI];omega⟩<;>exact aJ
   ·have ei:i=(aS s).length:=by omega
    rw[ei,waj]at hE
    have kS:=oP.sl
    have zjg:=JN
    repeat'(first|(apply ak<;>intro)|((with_reducible show Qs _ _ _ _ _);refine ai _ _ _ _ ?_)|simp(disch:=omega)only[↓aa,ab,simprocAttr,sa,sI, *])
    all_goals try omega
    refine bP X6 [2,5,10,11,102,103,104] (fun T8 H8 u8 j8 n8 l8 g8=>?_) jr
    try simp(disch:=omega)only[sm,sl,sI]at n8 l8 g8
    simp only[sq,simprocAttr]at u8
    refine bL kq (fun nn T X=>∃ (k:Nat) (vr:Value) (fr:Option (Nat×Nat)),nn=s.aI.length-k∧(T.get 104=some (.int .i64 k))∧(T.get 2=T8.get 2∧T.get 5=T8.get 5∧T.get 10=T8.get 10∧T.get 11=T8.get 11∧T.get 102=T8.get 102∧T.get 103=T8.get 103)∧True∧True∧(k≤s.aI.length∧b8 (X5.next+1) 2 X vr (fM (s.aI.take k) (aS s)).length ((fM (s.aI.take k) (aS s)).flatMap bF) fr∧b8 (X5.next+1) 3 X v i cs f∧pF fr f∧gA X6 X∧X.objs.get X5.next=some (.row [v,vr] none true)∧X5.next+1≤X.next∧Ko X5 X∧X.lo=X5.lo)) ?_ ?_
    ·have b3:=(j8.objs X5.next (by omega)).trans Cm
     refine⟨_,0,.slice none 0 0,none,rfl,?_,?_,trivial,trivial,wJ _,b8.nil _ _ _,hO.ko j8,trivial,j8.ia,b3,by omega,kO.trans j8,by omega⟩<;>exact aJ
    rintro nn Q4 X8 ⟨k,vr,fr,rfl,m8,w8,_,_,hk,js,qi,Cw,xL,Cx,Q5,jW,Q6⟩ Qs hQ aG ai
    have Fi:=pX.trans jW
    by_cases fX:k<s.aI.length
    ·obtain⟨r,o,cells,gg,tt,part,rfl,hr,aC,aR,rfl⟩:=zq k s.aI[k] (by simp)
     have a1:=bn fX
     have e1:=(Fi.objs r hr).trans aC
     unfold qR at aR
     have um:s.aI[k]∈s.aI:=wam fX
     have iy:s.aI.take (k+1)=s.aI.take k++[s.aI[k]]:=by rw[wR,wj fX];rfl
     have JQ:=(jW.objs (Y.next+1) (by omega)).trans hB
     have JR:=(jW.objs Y.next (by omega)).trans hM
     have kD:=cd.aI _ um
     have ck:=L.slot _ um
     generalize s.aI[k]=x at*
     have jt:fM (s.aI.take (k+1)) (aS s)=if x.used=true then fM (s.aI.take k) (aS s)++[eh (aS s) x.word]else fM (s.aI.take k) (aS s):=by
      unfold fM
      rw[iy,List.filter_append,waT]
      cases hu:x.used<;>simp[hu]
     have rH:(fM (s.aI.take k) (aS s)).length≤k:=by
      unfold fM
      rw[wO]
      have:=wb5 (fun y:Slot=>y.used) (s.aI.take k)
      rw[wU]at this
      omega
     generalize fM (s.aI.take k) (aS s)=RL at*
     clear iy
     cases hu:x.used with
     |false=>
      rw[hu]at jt aR
      rw[wI (by simp)]at jt
      rw[←jt]at js
      clear jt aC
      repeat'(first|(apply ak<;>intro)|((with_reducible show Qs _ _ _ _ _);refine ai _ _ _ _ ?_)|simp(disch:=omega)only[↓aa,ab,simprocAttr,sa,sI, *])
      all_goals try omega
      refine hQ _ _ _ ?_ ⟨k+1,_,fr,rfl,?_,?_,trivial,trivial,by omega,js.ko aj,qi.ko aj,Cw,xL.trans (Ko.ia aj),by simp(disch:=omega)only[sm,sl,sI];exact Cx,by simp(disch:=omega)only[sm,sl,sI];omega,aj,by simp(disch:=omega)only[sm,sl,sI];omega⟩<;>exact aJ
     |true=>
      rw[hu]at jt aR
      rw[wF rfl]at jt
      clear aC
      repeat'(first|(apply ak<;>intro)|refine aw 30 [Fx,Fx,Fx,Fx,Fx,Tx,Fx,Fx,Fx,Fx] ?_|((with_reducible show Qs _ _ _ _ _);refine ai _ _ _ _ ?_)|simp(disch:=omega)only[↓aa,ab,simprocAttr,sa,sI, *])
      all_goals try omega
      refine af.mono (P3 _ (by simp(disch:=omega)only[sm,sl,sI];omega) (by simp(disch:=omega)only[sm,sl,sI];exact JQ) (by simp(disch:=omega)only[sm,sl,sI];exact JR) (by simp(disch:=omega)only[sm,sl,sI];omega) (by simp(disch:=omega)only[sm,sl,sI];omega) x.word kD (ck hu)) ?_
      rintro _ Z ⟨rfl,sZ⟩
      have kZ:Ko X8 Z:=Ko.call aj sZ
      have lZ:=sZ.lo;have nZ:=sZ.ag
      simp(disch:=omega)only[sm,sl,sI]at lZ nZ
      have z3:=(kZ.objs X5.next (by omega)).trans Cx
      have eD:(RL++[eh (aS s) x.word]).flatMap bF=RL.flatMap bF++bF (eh (aS s) x.word):=by rw[wbd];simp
      generalize eh (aS s) x.word=tv at*
      obtain⟨Z2,xK,qh,gL,dB,oz,nD⟩:=qK (bytes:=16) (k:=1) (new:=bF tv) (js.ko (H':=(Z.bU H.lo).newRow (bF tv)) aj) (by simp(disch:=omega)only[sm,sl,sI];omega) (by simp(disch:=omega)only[sm,sl,sI];omega) (by decide) rfl rfl (rn (by omega))
      obtain⟨eM,te⟩:=nD _ _ _ _ _ (qi.ko (H':=(Z.bU H.lo).newRow (bF tv)) aj) Cw
      have y3:=dB.alone _ _ _ (by simp(disch:=omega)only[sm,sl,sI];omega) ((by simp(disch:=omega)only[sm,sl,sI];exact z3):((Z.bU H.lo).newRow (bF tv)).objs.get X5.next=_)
      have mB:=dB.lo
      have jV:Ko X5 Z2:=Down.ko dB.low (X:=X5) (jW.trans aj) (by omega)
      have kP:gA X8 Z2:=(Ko.ia (H':=(Z.bU H.lo).newRow (bF tv)) aj).trans dB.ia
      rw[←eD,←jt]at gL
      have iQ:RL.length+1=(fM (s.aI.take (k+1)) (aS s)).length:=by rw[jt,wN];rfl
      rw[iQ]at gL
      simp(disch:=omega)only[sm,sl,sI]at oz mB
      unfold bF at qh
      have Fh:=js.sv
      clear js qi nD eD
      clear jt
      simp only[az,aD]at gL
      simp(disch:=omega)only[↓aa,ab,simprocAttr,sa,sI,cw,iG,dW,cZ,sK, *]
      all_goals try omega
      refine hQ _ _ _ ?_ ⟨k+1,_,xK,rfl,?_,?_,trivial,trivial,by omega,gL.oy y3,eM.oy y3,te,(xL.trans kP).trans (ox y3),by simp(disch:=omega)only[sm,sl,sI],by simp(disch:=omega)only[sm,sl,sI];omega,jV.setRow (wy _) _,by simp(disch:=omega)only[sm,sl,sI];omega⟩<;>exact aJ
    ·have ek:k=s.aI.length:=by omega
     rw[ek,waj]at js
     have JT:=(jW.objs (H.next+1) (by omega)).trans zm
     have Cy:fM s.aI (aS s)=(fB s).roots:=rfl
     have Cz:(aS s).map (qd s.words (aS s))=(fB s).nodes:=rfl
     have rH:(fB s).roots.length≤100000:=by
      rw[←Cy]
      unfold fM
      rw[wO]
      have:=wb5 (fun y:Slot=>y.used) s.aI
      omega
     rw[Cy]at js
     rw[Cz]at hE
     have g1:eN iz 3 X8 v (fB s).nodes:=qi.my (by rw[←Cz,wO,ei]) (by omega) (hE.g iz.mono xL)
     have g2:eN cQ 2 X8 vr (fB s).roots:=js.my rfl (by omega) xD
     have uF:=ox (c':=[v,vr]) JT
     have hG:eg (X8.setRow (H.next+1) [v,vr]) v vr (fB s):=⟨(g1.ext iz.mono uF).qX.imp fun _ _ h=>h.nd,(g2.ext cQ.qg uF).qX⟩
     have hI:=QW (c:=[v,vr]) (Ck.ko (RInt.mono _) (kX.trans jW)) JT (fun _ q=>by cases q) (fun _ q=>by cases q)
     obtain⟨_,_,hv⟩:=g1.form
     obtain⟨_,_,JU⟩:=g2.form
     subst hv JU
     clear g1 g2 js qi hE hO
     repeat'(first|(apply ak<;>intro)|((with_reducible show Qs _ _ _ _ _);refine ai _ _ _ _ ?_)|simp(disch:=omega)only[↓aa,ab,simprocAttr,sa,sI, *])
     all_goals try omega
     refine⟨?_,aA⟩
     first|exact⟨fun _=>⟨_,_,_,rfl,hG,hI⟩,fun q=>q.elim⟩|exact⟨fun _=>⟨_,_,_,rfl,hG,hI⟩,fun q=>absurd rfl q⟩
 ·have e:=mA h0
  clear mz mA
  subst e
  simp(disch:=omega)only[↓aa,ab,simprocAttr,sa, *]
  all_goals try omega
  refine⟨?_,aA⟩
  first|exact⟨fun q=>absurd q h0,fun _=>rfl⟩|exact⟨fun q=>q.elim,fun _=>trivial⟩
end Go.AM
