/-
  Walks over letters of the functions that the law reaches; written small by a program of mine.
-/
import Derived.Test.YtjgppeeplkidpaaGreatGZM
set_option linter.unusedVariables false
set_option linter.unusedSectionVars false
namespace Go.AM
attribute [local instance] fnMaps
open Go Go.Proofs
set_option maxRecDepth 100000
set_option maxHeartbeats 4000000
set_option linter.unusedSimpArgs false
theorem ziw{l:List Int}(h:l.Nodup){i:Nat}(hi:i<l.length):l[i]∉l.take i:=fun hm=>by
 obtain⟨j,hj,e⟩:=wbL.1 hm
 rw[wU]at hj
 rw[List.getElem_take]at e
 have:=(List.getElem_inj h).1 e
 omega
theorem zix(H:Heap)(an:H.lo≤H.next){x y:Value}{g:Gr}(hG:eg H x y g)(hg:jT g)(hn:g.nodes.length≤900000)(rH:g.roots.length≤100000)(v:Value)(o:List Nat)(hv:SLr (RInt .i64) 1 H v (fI o))(hO:QB g o):
  af E (aK 178) [.agg #[x,y],v] H fun r H'=>(∃x' y',r= .tuple #[.agg #[x',y'],.int .i64 0]∧uH H' x' y' (fz g o))∧aq H H':=by
 have c1:=fun(X:Heap) (hx:X.lo≤X.next) (k:Ko H X)=>PS X hx (hG.ko k) hg
 have nz:=hG
 have fN:o.length≤900000:=wK (zH _ o hO.nodup hO.lt) hn
 have qn:=Ro o
 obtain⟨⟨na,nc,rfl,⟨_,uB⟩,bs⟩,_⟩:=hG.nodes
 obtain⟨⟨ra,rc,rfl,_⟩,_⟩:=hG.roots
 obtain⟨⟨pa,pc,rfl,⟨_,pm⟩,pD⟩, -⟩:=hv
 rw[qn]at pm
 have RD:=zig hO.nodup
 refine aV Tryz.f178 ?_
 simp only[Tryz.f178]
 rw[qn]
 repeat'(first|((with_reducible show af _ _ _ _ _);refine ao H (c1 _ ah aj) ?_;intro H2 k2 l2 n2 g2 q2;try simp(disch:=omega)only[sm,sl,sI]at l2 n2 g2 q2)|simp(disch:=omega)only[↓aa,ab,simprocAttr,sa,sI, *])
 all_goals try omega
 refine bP H2 [1,2,4,6,29,30,31] (fun T5 H5 u5 j5 n5 l5 g5=>?_) jr
 try simp(disch:=omega)only[sm,sl,sI]at n5 l5 g5
 simp only[sq,simprocAttr]at u5
 refine bL kq (fun nn T X=>∃ (i:Nat),nn=o.length-i∧(T.get 31=some (.int .i64 i))∧(T.get 1=T5.get 1∧T.get 2=T5.get 2∧T.get 4=T5.get 4∧T.get 6=T5.get 6∧T.get 29=T5.get 29∧T.get 30=T5.get 30)∧True∧True∧(i≤o.length∧X.objs.get H2.next=some (.map (jq ((fI o).take i) 0))∧H2.next+1≤X.next∧Ko H2 X∧X.lo=H2.lo)) ?_ ?_
 ·have b1:=g5 H2.next
  rw[cr rfl,wai]at b1
  refine⟨_,0,rfl,?_,?_,trivial,trivial,wJ _,b1,by omega,j5,l5⟩<;>exact aJ
 rintro nn zk X5 ⟨i,rfl,m5,w5,_,_,hi,hM,hn5,E6,lX5⟩ Qs hQ aG ai
 have zR:=k2.trans E6
 have bB:=g2 H.next (by omega)
 have bR:=g2 (H.next+1) (by omega)
 simp(disch:=omega)only[sm,sl,sI]at bB bR
 have eB:=(E6.objs H.next (by omega)).trans bB
 have eR:=(E6.objs (H.next+1) (by omega)).trans bR
 by_cases hlt:i<o.length
 ·have jd:i<(fI o).length:=by omega
  obtain⟨r,q,cells,gg,tt,part,rfl,hr,aC,aR,rfl⟩:=pD i (fI o)[i] (by simp)
  have a1:=bn hlt
  have e1:=(zR.objs r hr).trans aC
  have q0:=jS aR
  have Kb:=ziw RD jd
  have fX:=Rm Kb
  have Cl:=P2 (H:=X5) (r:=H2.next) (by omega) Kb
  have iy:(fI o).take (i+1)=(fI o).take i++[(fI o)[i]]:=by rw[wR,wj jd];rfl
  rw[←iy,wU,waS (by omega)]at Cl
  have RE:=hO.lt o[i] (wam hlt)
  rw[Rq hlt]at q0 fX Cl
  generalize o[i]=u at*
  clear iy Kb
  repeat'(first|(apply ak<;>intro)|apply bw|((with_reducible show Qs _ _ _ _ _);refine ai _ _ _ _ ?_)|simp(disch:=omega)only[↓aa,ab,simprocAttr,sa,sI,P1,Ft, *])
  all_goals first|(refine hQ _ _ _ ?_ ⟨i+1,rfl,?_,?_,trivial,trivial,by omega,by simp(disch:=omega)only[sm,sl,sI],by simp(disch:=omega)only[sm,sl,sI];omega,jr,by simp(disch:=omega)only[sm,sl,sI];omega⟩<;>exact aJ)|omega|trace_state
 ·rw[wZ (by omega)]at hM
  repeat'(first|(apply ak<;>intro)|((with_reducible show Qs _ _ _ _ _);refine ai _ _ _ _ ?_)|simp(disch:=omega)only[↓aa,ab,simprocAttr,sa,sI, *])
  all_goals try omega
  refine af.mono (Qw X5 (by omega) _ g.roots (nz.ko zR).roots rH) ?_
  rintro rv Z ⟨Kc,sZ⟩
  have kZ:=sZ.ko
  have lZ:=sZ.lo;have nZ:=sZ.ag
  obtain⟨D0,RF,oP,d0,d1⟩:=zim g o (wy _) kZ Kc
  obtain⟨rva,rvc,Fk⟩:=(Kc.my rfl xD).form
  subst Fk
  have eBZ:=(kZ.objs H.next (by omega)).trans eB
  have eRZ:=(kZ.objs (H.next+1) (by omega)).trans eR
  simp(disch:=omega)only[↓aa,ab,simprocAttr,sa,sI, *]
  all_goals try omega
  refine bP Z [2,4,6,11,63,64,65] (fun T6 H6 u6 j6 n6 l6 g6=>?_) jr
  try simp(disch:=omega)only[sm,sl,sI]at n6 l6 g6
  simp only[sq,simprocAttr]at u6
  refine bL kq (fun nn T X=>∃ (i:Nat) (D:Ky→dc),nn=o.length-i∧(T.get 65=some (.int .i64 i))∧(T.get 2=T6.get 2∧T.get 4=T6.get 4∧T.get 6=T6.get 6∧T.get 11=T6.get 11∧T.get 63=T6.get 63∧T.get 64=T6.get 64)∧True∧True∧(i≤o.length∧di X5.next X (IA i) D∧ql g o D i∧X.objs.get Z.next=some (.row [(D (0,0)).v,(D (1,0)).v] none true)∧Z.next+1≤X.next∧Ko X5 X∧X.lo=X5.lo)) ?_ ?_
  ·have b1:=g6 Z.next
   rw[cr rfl,wai,←d0,←d1]at b1
   refine⟨_,0,D0,rfl,?_,?_,trivial,trivial,wJ _,RF.ko j6,oP,b1,by omega,kZ.trans j6,by omega⟩<;>exact aJ
  clear RF oP d0 d1 Kc
  rintro nn I6 X6 ⟨i,D,rfl,m6,w6,_,_,hi,hF,hS,iV,QZ,kO,I8⟩ Qs hQ aG ai
  have rA:=zR.trans kO
  have eB6:=(kO.objs H.next (by omega)).trans eB
  by_cases hlt:i<o.length
  ·have jd:i<(fI o).length:=by omega
   obtain⟨r,q,cells,gg,tt,part,rfl,hr,aC,aR,rfl⟩:=pD i (fI o)[i] (by simp)
   have a1:=bn hlt
   have e1:=(rA.objs r hr).trans aC
   have q0:=jS aR
   have RE:=hO.lt o[i] (wam hlt)
   have yu:=Fu hO.lt hlt
   rw[Rq hlt]at q0
   obtain⟨r2,q2',gy,jP,jQ,jR,rfl,cq,fZ,cM,f,w,rfl,hf,hw⟩:=bs o[i] (dG g o i) yu
   have a2:=bn RE
   have e2:=(rA.objs r2 cq).trans fZ
   have ho:=hg.node _ (wag yu)
   generalize o[i]=u at*
   obtain⟨-, -,o3,o4, -⟩:=ho
   have qH:=hf;have kB:=hw
   obtain⟨⟨fa,fc,rfl,⟨_,fm⟩,_⟩,_⟩:=hf
   obtain⟨⟨wa,wc,rfl,⟨_,wm⟩,_⟩,_⟩:=hw
   clear RD yu
   repeat'(first|(apply ak<;>intro)|refine aw 17 [Fx,Fx,Fx,Fx,Fx,Fx,Tx,Fx,Fx,Tx,Fx,Fx,Fx,Fx,Fx] ?_|((with_reducible show Qs _ _ _ _ _);refine ai _ _ _ _ ?_)|simp(disch:=omega)only[↓aa,ab,simprocAttr,sa,sI,sK, *])
   all_goals try omega
   refine af.mono (Qw _ (by simp(disch:=omega)only[sm,sl,sI];omega) _ (dG g o i).fields (qH.ko cQ.mono (rA.trans aj)) (by omega)) ?_
   rintro fv Z1 ⟨Kd,zS⟩
   have Ke:Ko X6 Z1:=Ko.call aj zS
   have lZ1:=zS.lo;have nZ1:=zS.ag
   have n1:=zS.objs X6.next (by simp(disch:=omega)only[sm,sl,sI];omega)
   simp(disch:=omega)only[sm,sl,sI]at lZ1 nZ1 n1
   have x1:=(Ke.objs Z.next (by omega)).trans iV
   have Kf:=Kd.my rfl xD
   obtain⟨fva,fvc,hfv⟩:=Kf.form
   subst hfv
   have cfv:=Kf.cell
   clear Kf
   simp(disch:=omega)only[↓aa,ab,simprocAttr,sa,sI,sK, *]
   all_goals try omega
   refine af.mono (zg2 _ (by simp(disch:=omega)only[sm,sl,sI];omega) _ (dG g o i).bC (kB.ko RW.mono (rA.trans (Ke.trans aj))) (by omega)) ?_
   rintro wv Z2 ⟨Kg,Fz⟩
   have jV:Ko Z1 Z2:=Ko.call aj Fz
   have mB:=Fz.lo;have nZ2:=Fz.ag
   simp(disch:=omega)only[sm,sl,sI]at mB nZ2
   have n2':=(jV.objs X6.next (by omega)).trans n1
   have x2:=(jV.objs Z.next (by omega)).trans x1
   have Kh:=Kg.my (R:=RW) (l:=(dG g o i).bC) rfl ⟨by simp,fun i x h=>⟨_,Es h,rfl⟩⟩
   obtain⟨RG,RH,hwv⟩:=Kh.form
   subst hwv
   have cwv:=Kh.cell
   clear Kh
   have RI:Ko X6 (((X6.bU (X6.next+1)).newRow [.int .i64 0,.slice none 0 0,.slice none 0 0]).setRow X6.next [.int .i64 (dG g o i).kind,.slice fa (dG g o i).fields.length fc,.slice wa (dG g o i).bC.length wc]):=aj
   have RJ:OE Z1.next 1 Z2 (.slice RG (dG g o i).bC.length RH) (dG g o i).bC.length ((dG g o i).bC.map wV):=Kg
   have Ki:Ko Z2 ((Z2.bU H.lo).newRow [.int .i64 (dG g o i).kind,.slice fva (dG g o i).fields.length fvc,.slice RG (dG g o i).bC.length RH]):=aj
   obtain⟨rr,cc,Z3,g',ea,eE,D',zT,hS',v0,v1⟩:=zin hF hS (by omega) (by simp(disch:=omega)only[sm,sl,sI];omega) RI zS.ko Kd jV RJ Ki cfv cwv (by omega)
   have y3:=eE.obj (by simp(disch:=omega)only[sm,sl,sI];omega) ((Ki.objs Z.next (by omega)).trans x2) (by simp)
   have xB:=eE.iI (X:=X5) (kO.trans (Ke.trans (jV.trans Ki))) (wy _)
   have Kj:=eE.lo
   have Kk:=eE.ag
   simp(disch:=omega)only[sm,sl,sI]at Kj Kk
   clear Kd Kg RJ hF hS zS Fz eE RI
   simp(disch:=omega)only[↓aa,ab,simprocAttr,sa,sI,sK,cw,iG,dW, *]
   all_goals try omega
   refine hQ _ _ _ ?_ ⟨i+1,D',rfl,?_,?_,trivial,trivial,by omega,zT.box y3 (by simp),hS',by simp(disch:=omega)only[sm,sl,sI];rw[v0,v1],by simp(disch:=omega)only[sm,sl,sI];omega,xB.setRow (by omega) _,by simp(disch:=omega)only[sm,sl,sI];omega⟩<;>exact aJ
  ·have ei:i=o.length:=by omega
   subst ei
   obtain⟨zU,zV,FA⟩:=(hF.ae (0,0) (.inr (.inl rfl))).form
   obtain⟨zW,zX,FB⟩:=(hF.ae (1,0) (.inl rfl)).form
   rw[hS.n.2.1]at FA
   rw[hS.r.2.1]at FB
   rw[FA,FB]at iV
   repeat'(first|(apply ak<;>intro)|((with_reducible show Qs _ _ _ _ _);refine ai _ _ _ _ ?_)|simp(disch:=omega)only[↓aa,ab,simprocAttr,sa,sI,sK,cw,iG,dW, *])
   all_goals try omega
   refine bP X6 [4,6,11,15,93,94,95] (fun T7 H7 u7 j7 n7 l7 g7=>?_) jr
   try simp(disch:=omega)only[sm,sl,sI]at n7 l7 g7
   simp only[sq,simprocAttr]at u7
   refine bL kq (fun nn T X=>∃ (i:Nat) (lv:Value),nn=o.length-i∧(T.get 15=some (lv)∧T.get 95=some (.int .i64 i))∧(T.get 4=T7.get 4∧T.get 6=T7.get 6∧T.get 11=T7.get 11∧T.get 93=T7.get 93∧T.get 94=T7.get 94)∧True∧True∧(i≤o.length∧di X5.next X (IA o.length) D∧kQ X5.next X D o.length lv (i+1)∧X.objs.get Z.next=some (.row [.slice zU o.length zV,.slice zW g.roots.length zX] none true)∧Ko X5 X∧X.lo=X5.lo∧Z.next+1≤X.next)) ?_ ?_
   ·have b1:=(j7.objs Z.next (by omega)).trans iV
    have b2:kQ X5.next H7 D o.length (.slice (some ⟨X6.next,0,none⟩) 1 1) (0+1):= .inl ⟨rfl,X6.next,rfl,kO.ag,by omega,by rw[g7,cr rfl,wai,FB]⟩
    refine⟨_,0,_,rfl,?_,?_,trivial,trivial,wJ _,hF.ko j7,b2,b1,kO.trans j7,by omega,by omega⟩<;>exact aJ
   have hFz:=hF
   clear hF iV
   rintro nn I9 X7 ⟨i,lv,rfl,m7,w7,_,_,hi,hF,hL,iV,jU,Jb,Q3⟩ Qs hQ aG ai
   have zL:=zR.trans jU
   obtain⟨lr,lc,hlv,qV⟩:=hL.form
   subst hlv
   by_cases hlt:i<o.length
   ·have eJ:=RA (hF.ae (0,0) (.inr (.inl rfl))) hS
    rw[FA]at eJ
    obtain⟨⟨a,c,he,_,eJ⟩, -⟩:=eJ
    rw[wb9]at he
    obtain⟨r,q,cells,gg,tt,part,rfl,hr,aC,aR,xq⟩:=eJ i i (by rw[wbC hlt])
    cases he
    have a1:=bn hlt
    obtain⟨fa,fc,RK⟩:=(hF.ae (3,i) (.inr (.inr (.inl ⟨rfl,hlt⟩)))).form
    obtain⟨wa,wc,dvw⟩:=(hF.ae (4,i) (.inr (.inr (.inr ⟨rfl,hlt⟩)))).form
    unfold uG at xq
    rw[RK,dvw]at xq
    subst xq
    have gG:X5.next≤(((X7.newRow [.int .i64 0,.slice none 0 0,.slice none 0 0]).setRow X7.next [.int .i64 (dG g o i).kind,.slice fa (D (3,i)).n fc,.slice wa (D (4,i)).n wc]).newRow [.slice fa (D (3,i)).n fc]).next:=by simp(disch:=omega)only[sm,sl,sI];have:=jU.ag;omega
    have kk:Ko X7 (((X7.newRow [.int .i64 0,.slice none 0 0,.slice none 0 0]).setRow X7.next [.int .i64 (dG g o i).kind,.slice fa (D (3,i)).n fc,.slice wa (D (4,i)).n wc]).newRow [.slice fa (D (3,i)).n fc]):=aj
    obtain⟨rr,cc,Z3,g',ea,eE,II,zT⟩:=(hL.ko kk).app (hF.ko kk) gG (by simp(disch:=omega)only[sm,sl,sI];omega) (x:= .slice fa (D (3,i)).n fc) (by show(D (gd (i+1))).v=_;exact RK) rfl (by omega)
    have y3:=eE.obj (by simp(disch:=omega)only[sm,sl,sI];omega) ((kk.objs Z.next (by omega)).trans iV) (by simp)
    have xB:=eE.iI (X:=X5) (jU.trans kk) (wy _)
    have Kj:=eE.lo
    have Kk:=eE.ag
    simp(disch:=omega)only[sm,sl,sI]at Kj Kk
    clear hL hF eE
    repeat'(first|(apply ak<;>intro)|((with_reducible show Qs _ _ _ _ _);refine ai _ _ _ _ ?_)|simp(disch:=omega)only[↓aa,ab,simprocAttr,sa,sI,sK,cw,iG,dW, *])
    all_goals try omega
    refine hQ _ _ _ ?_ ⟨i+1,_,rfl,?_,?_,trivial,trivial,by omega,zT,II,y3,xB,by omega,by omega⟩<;>exact aJ
   ·have ei:i=o.length:=by omega
    subst ei
    repeat'(first|((with_reducible show Qs _ _ _ _ _);refine ai _ _ _ _ ?_)|simp(disch:=omega)only[↓aa,ab,simprocAttr,sa,sI,sK, *])
    all_goals try omega
    have EX:=hF.congr (fun k hk=>zis hS hk)
    refine bP X7 [4,6,11,105,106,107] (fun T8 H8 u8 j8 n8 l8 g8=>?_) jr
    try simp(disch:=omega)only[sm,sl,sI]at n8 l8 g8
    simp only[sq,simprocAttr]at u8
    refine bL kq (fun nn T X=>∃ (j:Nat),nn=o.length+1-j∧(T.get 107=some (.int .i64 j))∧(T.get 4=T8.get 4∧T.get 6=T8.get 6∧T.get 11=T8.get 11∧T.get 105=T8.get 105∧T.get 106=T8.get 106)∧True∧True∧(j≤o.length+1∧di X5.next X (IA o.length) (gO D (dH g o j 0))∧kQ X5.next X D o.length (.slice (some ⟨lr,0,none⟩) (o.length+1) lc) (o.length+1)∧X.objs.get Z.next=some (.row [.slice zU o.length zV,.slice zW g.roots.length zX] none true)∧Ko X5 X∧X.lo=X5.lo∧Z.next+1≤X.next)) ?_ ?_
    ·have b1:=(j8.objs Z.next (by omega)).trans iV
     refine⟨_,0,rfl,?_,?_,trivial,trivial,wJ _,EX.ko j8,hL.ko j8,b1,jU.trans j8,by omega,by omega⟩<;>exact aJ
    clear EX hF hL iV
    rintro nn Q4 X8 ⟨j,rfl,m8,w8,_,_,hj,hF,hL,iV,jW,Q6,Q5⟩ Qs hQ aG ai
    have Fi:=zR.trans jW
    by_cases jB:j<o.length+1
    ·obtain⟨EC,lc2,full,gg,tt,ziy,z9,zjl,zjm,hlg⟩:=hL.get jB
     cases ziy
     have a1:=bn jB
     obtain⟨s1,s2⟩:=hS.ls (n:=o.length) (j:=j) (by omega)
     obtain⟨v1,v2,v3,v4⟩:=Fy (D:=D) (dH g o j 0) (gd j)
     obtain⟨ja,jc,FC⟩:=(hF.ae (gd j) (Fw (by omega))).form
     rw[v1,v4,s2]at FC
     rw[FC]at hlg
     have hjm:(dN g o j).length≤100000:=by
      unfold dN
      split
      ·exact rH
      ·have h2:=Fu hO.lt (show j-1<o.length by omega)
       have:=(hg.node _ (wag h2)).2.2.1
       omega
     repeat'(first|(apply ak<;>intro)|((with_reducible show Qs _ _ _ _ _);refine ai _ _ _ _ ?_)|simp(disch:=omega)only[↓aa,ab,simprocAttr,sa,sI,sK, *])
     all_goals try omega
     have kI:=hQ
     refine bP X8 [4,6,11,19,105,106,107,111,112,113] (fun T9 H9 u9 j9 n9 l9 g9=>?_) jr
     try simp(disch:=omega)only[sm,sl,sI]at n9 l9 g9
     simp only[sq,simprocAttr]at u9
     refine bL kq (fun nn T X=>∃ (i:Nat),nn=(dN g o j).length-i∧(T.get 113=some (.int .i64 i))∧(T.get 4=T9.get 4∧T.get 6=T9.get 6∧T.get 11=T9.get 11∧T.get 19=T9.get 19∧T.get 105=T9.get 105∧T.get 106=T9.get 106∧T.get 107=T9.get 107∧T.get 111=T9.get 111∧T.get 112=T9.get 112)∧True∧True∧(i≤(dN g o j).length∧di X5.next X (IA o.length) (gO D (dH g o j i))∧kQ X5.next X D o.length (.slice (some ⟨lr,0,none⟩) (o.length+1) lc) (o.length+1)∧X.objs.get Z.next=some (.row [.slice zU o.length zV,.slice zW g.roots.length zX] none true)∧Ko X5 X∧X.lo=X5.lo∧Z.next+1≤X.next)) ?_ ?_
     ·have b1:=(j9.objs Z.next (by omega)).trans iV
      refine⟨_,0,rfl,?_,?_,trivial,trivial,wJ _,hF.ko j9,hL.ko j9,b1,jW.trans j9,by omega,by omega⟩<;>exact aJ
     clear hF hL iV
     rintro nn Jj X9 ⟨i,rfl,m9,w9,_,_,nW,hF,hL,iV,qj,lX9,sw⟩ Qs hQ aG ai
     have Q9:=zR.trans qj
     have eM9:X9.objs.get H2.next=some (.map (jq (fI o) 0)):=(qj.objs H2.next (by omega)).trans hM
     by_cases nJ:i<(dN g o j).length
     ·have hu:(dN g o j)[i]? =some (dN g o j)[i]:=wj nJ
      have eJ:=Ry hF hS (j:=j) (by omega) (Fv g o j i j nW)
      rw[FC]at eJ
      obtain⟨⟨a,c,he,_,eJ⟩, -⟩:=eJ
      rw[Fv g o j i j nW]at he
      obtain⟨r,q,cells,g3,tt3,part,rfl,hr,aC,aR,rfl⟩:=eJ i _ (J7 hu)
      cases he
      have a2:=bn nJ
      have Kl:(dN g o j)[i].kind=2→(dN g o j)[i].x.toNat∈o∧0≤(dN g o j)[i].x:=by
       have lL:(dN g o j)[i]∈dN g o j:=wam nJ
       intro hk
       generalize (dN g o j)[i]=u at*
       unfold dN at lL
       split at lL
       ·exact⟨hO.root u lL hk,(hg.right.roots u lL hk).1⟩
       ·have h2:=Fu hO.lt (show j-1<o.length by omega)
        refine⟨hO.field o[j-1] (wam (by omega)) u (by rw[zF h2];exact lL) hk,?_⟩
        exact(hg.right.node _ (wag h2) u lL hk).1
      generalize (dN g o j)[i]=u at*
      unfold bF at aR
      have kk:Ko X9 ((X9.newRow [.int .i64 0,.int .i64 0]).setRow X9.next [.int .i64 u.kind,.int .i64 u.x]):=aj
      by_cases hk:u.kind=2
      ·obtain⟨BE,oc⟩:=Kl hk
       obtain⟨r',c',zjn,old',gq,X',w1,w2,w3,w4,w5,w6,w7⟩:=zit (hF.ko kk) hS (by simp(disch:=omega)only[sm,sl,sI];omega) (by omega) hu hk
       have w3x:=w3
       have RM:=w4
       have w8:=(hL.ko kk).fR w6 ⟨gd j,Fw (by omega),w1⟩
       have y3:=w6.obj (by simp(disch:=omega)only[sm,sl,sI];omega) ((kk.objs Z.next (by omega)).trans iV) (by simp)
       have FD:=w6.iI (X:=X5) (qj.trans kk) (wy _)
       have lX':=w6.lo
       have nX':=w6.ag
       simp(disch:=omega)only[sm,sl,sI]at lX' nX'
       rw[FC]at w2
       simp only[waq,wi,wcE,wcl,wbT]at w2
       obtain⟨⟨rfl,rfl⟩,rfl⟩:=w2
       have w9:=(kk.objs r hr).symm.trans w3
       rw[aC]at w9
       simp only[wi,AObj.row.injEq]at w9
       obtain⟨rfl,rfl,rfl⟩:=w9
       obtain⟨xn,RN⟩:=wbz oc
       have RO:u.x.toNat=xn:=by omega
       rw[RO]at BE w5
       have fX:=Rl (zif.2 BE)
       rw[Rp]at fX
       have jb:xY ((X9.newRow [.int .i64 0,.int .i64 0]).setRow X9.next [.int .i64 u.kind,.int .i64 u.x]) r (i*2+1) [.int .i64 (o.idxOf xn:Nat)] cells gq 2 (some old')=some X':=by
        rw[←w4,←CT,←w3,←CU]
        exact w5
       rw[aO,aM]at RM
       have dk:decide (u.kind=2)=true:=wz hk
       have yi:=RM
       clear Kl hk hF hL w3 w3x w4 w5 w6 hu eJ
       rw[RN]at jb aR
       clear oc RO RN kk BE
       rw[wau]at aR
       repeat'(first|(apply ak<;>intro)|((with_reducible show Qs _ _ _ _ _);refine ai _ _ _ _ ?_)|simp(disch:=omega)only[↓aa,ab,simprocAttr,sa,sI,sK,Ft, *])
       all_goals try omega
       refine hQ _ _ _ ?_ ⟨i+1,rfl,?_,?_,trivial,trivial,by omega,w7,w8,y3,FD,by omega,by omega⟩<;>exact aJ
      ·have e:=RC (D:=D) (fun k=>zij (o:=o) hu hk k)
       have zT:di X5.next ((X9.newRow [.int .i64 0,.int .i64 0]).setRow X9.next [.int .i64 u.kind,.int .i64 u.x]) (IA o.length) (gO D (dH g o j (i+1))):=by
        rw[e];exact hF.ko kk
       have w8:=hL.ko kk
       have dk:decide (u.kind=2)=false:=wx hk
       have y3:=(kk.objs Z.next (by omega)).trans iV
       have FD:=qj.trans kk
       clear Kl hk hF hL hu eJ e
       by_cases hm:u.x∈fI o
       ·have fX:=Rl hm
        clear hm
        repeat'(first|(apply ak<;>intro)|((with_reducible show Qs _ _ _ _ _);refine ai _ _ _ _ ?_)|simp(disch:=omega)only[↓aa,ab,simprocAttr,sa,sI,sK,Ft, *])
        all_goals try omega
        refine hQ _ _ _ ?_ ⟨i+1,rfl,?_,?_,trivial,trivial,by omega,zT,w8,y3,FD,by simp(disch:=omega)only[sm,sl,sI];omega,by simp(disch:=omega)only[sm,sl,sI];omega⟩<;>exact aJ
       ·have fX:=Rm hm
        clear hm
        repeat'(first|(apply ak<;>intro)|((with_reducible show Qs _ _ _ _ _);refine ai _ _ _ _ ?_)|simp(disch:=omega)only[↓aa,ab,simprocAttr,sa,sI,sK,Ft, *])
        all_goals try omega
        refine hQ _ _ _ ?_ ⟨i+1,rfl,?_,?_,trivial,trivial,by omega,zT,w8,y3,FD,by simp(disch:=omega)only[sm,sl,sI];omega,by simp(disch:=omega)only[sm,sl,sI];omega⟩<;>exact aJ
     ·have ei:i=(dN g o j).length:=by omega
      have e:=RC (D:=D) (fun k=>zik (g:=g) (o:=o) (j:=j) (k:=k))
      rw[ei,e]at hF
      have hQ:=kI
      repeat'(first|(apply ak<;>intro)|((with_reducible show Qs _ _ _ _ _);refine ai _ _ _ _ ?_)|simp(disch:=omega)only[↓aa,ab,simprocAttr,sa,sI,sK, *])
      all_goals try omega
      refine hQ _ _ _ ?_ ⟨j+1,rfl,?_,?_,trivial,trivial,by omega,hF,hL,iV,qj,by omega,by omega⟩<;>exact aJ
    ·have ej:j=o.length+1:=by omega
     rw[ej]at hF
     obtain⟨g1,Km⟩:=ziv hF hS hO.lt
     have eR8:=(jW.objs (H.next+1) (by omega)).trans eR
     have uF:=ox (c':=[.slice zU o.length zV,.slice zW g.roots.length zX]) eR8
     rw[FA]at g1
     rw[FB]at Km
     have Kn:uH (X8.setRow (H.next+1) [.slice zU o.length zV,.slice zW g.roots.length zX]) (.slice zU o.length zV) (.slice zW g.roots.length zX) (fz g o):=⟨g1.ext iz.mono uF,Km.ext cQ.qg uF⟩
     clear g1 Km hF hL
     repeat'(first|(apply ak<;>intro)|((with_reducible show Qs _ _ _ _ _);refine ai _ _ _ _ ?_)|simp(disch:=omega)only[↓aa,ab,simprocAttr,sa,sI,sK, *])
     all_goals try omega
     exact⟨⟨_,_,rfl,Kn⟩,aA⟩
end Go.AM
