/-
  Walks over letters of the functions that the law reaches; written small by a program of mine.
-/
import Derived.Test.YtjgppeeplkidpaaGreatGJM
import Derived.Test.YtjgppeeplkidpaaGreatGYR
import Derived.Test.YtjgppeeplkidpaaGreatGYK
import Derived.Test.YtjgppeeplkidpaaGreatGYG
set_option linter.unusedVariables false
set_option linter.unusedSectionVars false
namespace Go.AM
attribute [local instance] fnMaps
open Go Go.Proofs
set_option maxRecDepth 100000
set_option maxHeartbeats 4000000
set_option linter.unusedSimpArgs false
structure Wk4 where
 a:Int
 b:Int
 c:Int
 d:Int
deriving DecidableEq
theorem Bk(a b:Int):eqI a b=decide (a=b):=(gI a b).trans rfl
theorem El{ev:TypeId→Value→Value→Option Bool}{xs ys:List Value}{o:Nat}{t:TypeId}{fs:List (Nat×TypeId)}{a b:Value}{p q:Prop}[Decidable p][Decidable q](h1:jj E t xs o=some a)(h2:jj E t ys o=some b)(h3:ev t a b=some (decide p))(h4:eqFields E ev xs ys fs=some (decide q)):eqFields E ev xs ys ((o,t)::fs)=some (decide (p∧q)):=by
 rw[eqFields,h1,h2,wo,wo,h3,wo]
 by_cases h:p
 ·rw[wz h]
  show eqFields E ev xs ys fs=_
  rw[h4,decide_eq_decide.2 (show q↔p∧q from⟨fun x=>⟨h,x⟩,fun x=>x.2⟩)]
 ·rw[wx h,wx (fun x=>h x.1)]
theorem zbP{ev:TypeId→Value→Value→Option Bool}{xs ys:List Value}{o:Nat}{t:TypeId}{a b:Value}{p:Prop}[Decidable p](h1:jj E t xs o=some a)(h2:jj E t ys o=some b)(h3:ev t a b=some (decide p)):eqFields E ev xs ys [(o,t)]=some (decide p):=by
 rw[eqFields,h1,h2,wo,wo,h3,wo]
 by_cases h:p
 ·rw[wz h];rfl
 ·rw[wx h]
theorem zbQ(a b:Wk4)(z:Nat):eqV E (z+2) 30 (.agg #[.int .i64 a.a,.int .i64 a.b,.int .i64 a.c,.int .i64 a.d,.int .i64 0]) (.agg #[.int .i64 b.a,.int .i64 b.b,.int .i64 b.c,.int .i64 b.d,.int .i64 0])=some (decide (a=b)):=by
 rw[decide_eq_decide.2 (show a=b↔a.a=b.a∧a.b=b.b∧a.c=b.c∧a.d=b.d∧(0:Int)=0 by cases a;cases b;simp only[Wk4.mk.injEq,wcl]),eq_30]
 refine El (a:= .int .i64 a.a) (b:= .int .i64 b.a) kq kq (by rw[eq_3,Bk]) (
  El (a:= .int .i64 a.b) (b:= .int .i64 b.b) kq kq (by rw[eq_3,Bk]) (
  El (a:= .int .i64 a.c) (b:= .int .i64 b.c) kq kq (by rw[eq_3,Bk]) (
  El (a:= .int .i64 a.d) (b:= .int .i64 b.d) kq kq (by rw[eq_3,Bk]) (
  zbP (a:= .int .i64 0) (b:= .int .i64 0) kq kq (by rw[eq_3,Bk])))))
theorem Pt(x y:Operand)(a b:Wk4):binV E .eql 30 x y (.agg #[.int .i64 a.a,.int .i64 a.b,.int .i64 a.c,.int .i64 a.d,.int .i64 0]) (.agg #[.int .i64 b.a,.int .i64 b.b,.int .i64 b.c,.int .i64 b.d,.int .i64 0])=some (.bool (decide (a=b))):=by
 show(eqV E (98+2) 30 _ _).bind _=_
 rw[zbQ];rfl
def workV(k:Wk4)(y:Int):Value:= .agg #[.int .i64 k.a,.int .i64 k.b,.int .i64 k.c,.int .i64 k.d,.int .i64 y]
def pR(g:Gr)(aX:Int)(i:Nat):Nat:=if aX<gO g i then 0 else gO g i
def pS(g:Gr)(aX:Int)(i:Nat):Nat:=if aX<gO g i then 1 else 0
def xf(g:Gr)(aX:Int)(l:List Nat):Wk4:=⟨cZ (pR g aX) l,l.length,cZ (fun i=>(dg g i).length) l,cZ (pS g aX) l⟩
open Classical in
noncomputable def sJ(g:Gr):List Nat:=if h:∃ l,gM g l then h.choose else[]
theorem zbR{g:Gr}{l:List Nat}(h:gM g l):gM g (sJ g):=by
 unfold sJ
 rw[dif_pos ⟨l,h⟩]
 exact Exists.choose_spec (⟨l,h⟩:∃ l,gM g l)
theorem Pu{g:Gr}{l:List Nat}(h:gM g l)(aX:Int):xf g aX l=xf g aX (sJ g):=by
 have p:=h.perm (zbR h)
 unfold xf
 rw[HW _ p,HW _ p,HW _ p,p.length_eq]
noncomputable def eL(s:St):Wk4:=xf (bU s) s.cfg.fL (sJ (bU s))
noncomputable def gD(s:St):Value:=if ef s=0 then .tuple #[workV (eL s) 0,.int .i64 0]else .tuple #[workV ⟨0,0,0,0⟩ 0,.int .i64 4]
structure Sx(H:Heap)(s:St)(w t f zl:Value):Prop where
 st:iQ H s w t f zl
 gz:s.words≠[]→Gz 1 H w
 ok:sE s
 wl:s.words.length≤400
 tl:s.table.length≤60
 sl:s.bj.length≤100
 top: -9223372036854775808≤s.top∧s.top≤9223372036854775807
theorem Sx.ko{H X:Heap}{s:St}{w t f zl:Value}(h:Sx H s w t f zl)(k:Ko H X):Sx X s w t f zl:=
 ⟨h.st.ko k,fun q=>(h.gz q).ko h.st.w.2 k,h.ok,h.wl,h.tl,h.sl,h.top⟩
theorem Pv{g:Gr}(h:gP g)(aX:Int)(i:Nat):pR g aX i≤8193:=by
 have:=HX h i
 unfold pR
 split<;>omega
theorem Pw(g:Gr)(aX:Int)(i:Nat):pS g aX i≤1:=by unfold pS;split<;>omega
structure Lx(s:St):Prop where
 ok:gP (bU s)
 n:(bU s).nodes.length≤500
 r:(bU s).roots.length≤100
theorem Sx.lx{H:Heap}{s:St}{w t f zl:Value}(h:Sx H s w t f zl)(h0:ef s=0):Lx s:=by
 have:=h.wl;have:=h.tl;have:=h.sl
 have n1:(aU s).length≤500:=by
  have:=xg s
  unfold aU
  rw[wN,wO]
  omega
 refine⟨zbS (IA h0) h.ok.words h.ok.bj (by omega),?_,?_⟩
 ·show((aU s).map _).length≤_
  rw[wO];exact n1
 ·show(fN s.bj (aU s)).length≤_
  unfold fN
  rw[wO]
  have:=wb5 (fun y:Slot=>y.used) s.bj
  omega
theorem IB(H:Heap)(aj:H.lo≤H.next){s:St}{w t f zl:Value}(hS:Sx H s w t f zl):af E (aC 8) [df s w t f zl] H fun r H'=>r=gD s∧aq H H':=by
 have c1:=fun(X:Heap) (hx:X.lo≤X.next) (k:Ko H X)=>zbT X hx (hS.st.ko k) (hS.ko k).gz hS.ok hS.wl (wK hS.tl (by decide)) (wK hS.sl (by decide))
 have iW:=hS.lx
 obtain⟨⟨wa,wc,rfl,_⟩,_⟩:=hS.st.w
 obtain⟨⟨ta,tc,rfl,_⟩,_⟩:=hS.st.t
 obtain⟨⟨fa,fc,rfl,_⟩,_⟩:=hS.st.f
 obtain⟨⟨za,zc,rfl,_⟩,_⟩:=hS.st.sl
 clear hS
 unfold df at c1
 refine aQ Tryz.f8 ?_
 simp only[Tryz.f8]
 unfold df
 simp(disch:=omega)only[↓aa,ab,simprocAttr,sa,sI, *]
 all_goals try omega
 refine af.mono (c1 _ (by simp(disch:=omega)only[sm,sl,sI];omega) bL) ?_
 rintro _ Y ⟨⟨mw,my⟩,sY⟩
 have kY:Ko H Y:=Ko.call bL sY
 have lY:=sY.lo;have nY:=sY.ag;have gY:=sY.objs
 simp(disch:=omega)only[sm,sl,sI]at lY nY gY
 have bY:=gY H.next (by omega)
 have lH:=gY (H.next+1) (by omega)
 simp(disch:=omega)only[sm,sl,sI]at bY lH
 clear sY gY c1
 by_cases h0:ef s=0
 ·obtain⟨x,y,v,rfl,hG, -⟩:=mw h0
  obtain⟨g1,g2,g3⟩:=iW h0
  have mu:=hG
  obtain⟨⟨na,nc,rfl,_⟩,_⟩:=hG.nodes
  obtain⟨⟨ra,rc,rfl,_⟩,_⟩:=hG.roots
  simp(disch:=omega)only[↓aa,ab,simprocAttr,sa,sI, *]
  all_goals try omega
  clear mw my iW
  have hnG:((Y.newRow [.slice none 0 0,.slice none 0 0]).setRow Y.next [.slice na (bU s).nodes.length nc,.slice ra (bU s).roots.length rc]).next=Y.next+1:=by simp(disch:=omega)only[sm,sl,sI]
  have hlG:((Y.newRow [.slice none 0 0,.slice none 0 0]).setRow Y.next [.slice na (bU s).nodes.length nc,.slice ra (bU s).roots.length rc]).lo=Y.lo:=by simp(disch:=omega)only[sm,sl,sI]
  have qY:Ko Y ((Y.newRow [.slice none 0 0,.slice none 0 0]).setRow Y.next [.slice na (bU s).nodes.length nc,.slice ra (bU s).roots.length rc]):=bL
  have Bl:((Y.newRow [.slice none 0 0,.slice none 0 0]).setRow Y.next [.slice na (bU s).nodes.length nc,.slice ra (bU s).roots.length rc]).objs.get Y.next=some (.row [.slice na (bU s).nodes.length nc,.slice ra (bU s).roots.length rc] none true):=by simp(disch:=omega)only[sm,sl,sI]
  generalize (Y.newRow [.slice none 0 0,.slice none 0 0]).setRow Y.next [.slice na (bU s).nodes.length nc,.slice ra (bU s).roots.length rc]=G at*
  refine af.mono (zbK G (by omega) (mu.ko qY) g1 (by omega) (by omega)) ?_
  rintro _ Z ⟨⟨v2,l,rfl,hM,hL⟩,sZ⟩
  have kZ:Ko H Z:=(kY.trans qY).trans sZ.ko
  have lZ:=sZ.lo;have nZ:=sZ.ag
  have z1:=(sZ.objs H.next (by omega)).trans ((qY.objs H.next (by omega)).trans bY)
  have z2:=(sZ.objs (H.next+1) (by omega)).trans ((qY.objs (H.next+1) (by omega)).trans lH)
  have z3:=(sZ.objs Y.next (by omega)).trans Bl
  have yN:=(mu.ko qY).ko sZ.ko
  clear sZ Bl bY lH
  have kU:=hM.len
  have c2:=fun(X:Heap) (hx:X.lo≤X.next) (k:Ko Z X)=>zbO X hx (yN.ko k) g1 v2 l (hL.ko (dd.mono _) k) hM.lt (by omega)
  have fP:=xd l
  obtain⟨⟨pa,pc,rfl,⟨_,pm⟩,mf⟩, -⟩:=id hL
  rw[fP]at pm
  rw[fP]at c2⊢
  repeat'(first|((with_reducible show af _ _ _ _ _);refine ak Z (c2 _ ah bL) ?_;intro H2 k2 l2 n2 g2 q2;try simp(disch:=omega)only[sm,sl,sI]at l2 n2 g2 q2)|simp(disch:=omega)only[↓aa,ab,simprocAttr,sa,sI, *])
  all_goals try omega
  have x1:=(g2 H.next (by omega)).trans z1
  have x2:=(g2 (H.next+1) (by omega)).trans z2
  have x3:=(g2 Y.next (by omega)).trans z3
  have dE:=yN.ko k2
  rename Heap=>B
  have kB:=k2;have lB:=l2;have nB:=n2
  clear c2 g2 q2 k2 l2 n2
  refine bC B [1,2,4,9,34,35,36] (fun T5 H5 u5 j5 n5 l5 g5=>?_) bL
  try simp(disch:=omega)only[sm,sl,sI]at n5 l5 g5
  simp only[sq,simprocAttr]at u5
  refine bt kq (fun nn T X=>∃ (j A M:Nat),nn=l.length-j∧(T.get 36=some (.int .i64 j))∧(T.get 1=T5.get 1∧T.get 2=T5.get 2∧T.get 4=T5.get 4∧T.get 9=T5.get 9∧T.get 34=T5.get 34∧T.get 35=T5.get 35)∧True∧True∧(j≤l.length∧A=cZ (pR (bU s) s.cfg.fL) (l.take j)∧M=cZ (pS (bU s) s.cfg.fL) (l.take j)∧X.objs.get B.next=some (.row [.int .i64 A,.int .i64 l.length,.int .i64 (cZ (fun i=>(dg (bU s) i).length) l),.int .i64 M,.int .i64 0] none true)∧B.next<X.next∧Ko B X∧X.lo=B.lo)) ?_ ?_
  ·have b1:=g5 B.next
   rw[cB rfl,wai]at b1
   refine⟨_,0,0,0,rfl,?_,?_,trivial,trivial,wJ _,rfl,rfl,b1,by omega,j5,l5⟩<;>exact ay
  have nt:B.lo=H.lo:=by omega
  rintro nn iB X5 ⟨j,A,M,rfl,m5,w5,_,_,hj,hA,Em,hb,hq,fM,Eg⟩ Qs hQ aD ai
  have k6:=kB.trans fM
  have nX5:=fM.ag
  have e1:=(fM.objs H.next (by omega)).trans x1
  have e2:=(fM.objs (H.next+1) (by omega)).trans x2
  have e3:=(fM.objs Y.next (by omega)).trans x3
  by_cases hlt:j<l.length
  ·have ma:j<(dh l).length:=by omega
   obtain⟨r,q,cells,gg,tt,part,rfl,hr,aG,a8,rfl⟩:=mf j (dh l)[j] (by simp)
   have a1:=bI hlt
   have e4:=(k6.objs r hr).trans aG
   have q0:=pQ a8
   have mU:=hM.lt l[j] (wam hlt)
   have IC:=Bj (pR (bU s) s.cfg.fL) hlt
   have sn:=Bj (pS (bU s) s.cfg.fL) hlt
   have pL:=pI (Pv g1 s.cfg.fL) (l.take j)
   have jX:=pI (Pw (bU s) s.cfg.fL) (l.take j)
   rw[←hA]at IC pL
   rw[←Em]at sn jX
   clear hA Em
   have HR:(l.take j).length≤l.length:=by rw[wU];omega
   rw[Iw hlt]at q0
   generalize l[j]=i at*
   obtain⟨⟨na',nc',Px,_,bJ⟩,_⟩:=yN.nodes
   simp only[waq,wbT]at Px
   obtain⟨rfl,rfl⟩:=Px
   obtain⟨r2,o2,nq,g2,t2,xe,rfl,dW,jY,iV,f,w,rfl,hf,hw⟩:=bJ i (bU s).nodes[i] (by simp)
   have a2:=bI mU
   have e5:=(k6.objs r2 dW).trans jY
   have bh:=HY (g:=bU s) (wj mU)
   have jd:=g1.node (bU s).nodes[i] (wam mU)
   generalize (bU s).nodes[i]=nd at*
   have je:=hf;have jR:=hw
   obtain⟨⟨fa',fc',rfl,⟨_,fm⟩,_⟩,_⟩:=hf
   obtain⟨⟨wa',wc',rfl,⟨_,wm⟩,_⟩,_⟩:=hw
   obtain⟨-, -,o3,o4, -⟩:=jd
   by_cases hz:s.cfg.fL<1+(nd.fields.length:Int)+nd.bO.length
   ·have dz:decide (s.cfg.fL<1+(nd.fields.length:Int)+nd.bO.length)=true:=wz hz
    have kz:pR (bU s) s.cfg.fL i=0:=by unfold pR;rw[bh];exact wF (by omega)
    have me:pS (bU s) s.cfg.fL i=1:=by unfold pS;rw[bh];exact wF (by omega)
    rw[kz]at IC
    rw[me]at sn
    clear hz kz me bh
    repeat'(first|(apply ao<;>intro)|((with_reducible show af _ _ _ _ _);refine ak X5 (Ii _ ah nd.kind _ _ nd (je.ko dP.mono (k6.trans bL)) (jR.ko RW.mono (k6.trans bL)) (by omega) (by omega)) ?_;intro H2 k2 l2 n2 g2 q2;try simp(disch:=omega)only[sm,sl,sI]at l2 n2 g2 q2)|((with_reducible show Qs _ _ _ _ _);refine ai _ _ _ _ ?_)|simp(disch:=omega)only[↓aa,ab,simprocAttr,sa,sI, *])
    all_goals try omega
    all_goals first|(refine hQ _ _ _ ?_ ⟨j+1,A,M+1,rfl,?_,?_,trivial,trivial,by omega,by omega,by omega,by simp(disch:=omega)only[sm,sl,sI];rfl,by simp(disch:=omega)only[sm,sl,sI];omega,bL,by simp(disch:=omega)only[sm,sl,sI];omega⟩<;>exact ay)|trace_state
   ·have dz:decide (s.cfg.fL<1+(nd.fields.length:Int)+nd.bO.length)=false:=wx hz
    have kz:pR (bU s) s.cfg.fL i=1+nd.fields.length+nd.bO.length:=by unfold pR;rw[bh];exact wI (by omega)
    have me:pS (bU s) s.cfg.fL i=0:=by unfold pS;rw[bh];exact wI (by omega)
    rw[kz]at IC
    rw[me]at sn
    clear hz kz me bh
    repeat'(first|(apply ao<;>intro)|((with_reducible show af _ _ _ _ _);refine ak X5 (Ii _ ah nd.kind _ _ nd (je.ko dP.mono (k6.trans bL)) (jR.ko RW.mono (k6.trans bL)) (by omega) (by omega)) ?_;intro H2 k2 l2 n2 g2 q2;try simp(disch:=omega)only[sm,sl,sI]at l2 n2 g2 q2)|((with_reducible show Qs _ _ _ _ _);refine ai _ _ _ _ ?_)|simp(disch:=omega)only[↓aa,ab,simprocAttr,sa,sI, *])
    all_goals try omega
    all_goals first|(refine hQ _ _ _ ?_ ⟨j+1,A+(1+nd.fields.length+nd.bO.length),M,rfl,?_,?_,trivial,trivial,by omega,by omega,by omega,by simp(disch:=omega)only[sm,sl,sI];rfl,by simp(disch:=omega)only[sm,sl,sI];omega,bL,by simp(disch:=omega)only[sm,sl,sI];omega⟩<;>exact ay)|trace_state
  ·have ej:j=l.length:=by omega
   rw[ej,waj]at hA Em
   subst hA Em
   clear mf
   have jd:=Pu hM s.cfg.fL
   repeat'(first|(apply ao<;>intro)|((with_reducible show Qs _ _ _ _ _);refine ai _ _ _ _ ?_)|simp(disch:=omega)only[↓aa,ab,simprocAttr,sa,sI, *])
   all_goals try omega
   refine⟨?_,Ko.same bL (by simp(disch:=omega)only[sm,sl,sI];omega)⟩
   unfold gD eL
   rw[wF h0,←jd]
   rfl
 ·rw[my h0]
  unfold gD
  rw[wI h0]
  clear mw my
  simp(disch:=omega)only[↓aa,ab,simprocAttr,sa,sI, *]
  all_goals first|exact⟨rfl,Ko.same bL (by simp(disch:=omega)only[sm,sl,sI];omega)⟩|trace_state
end Go.AM
namespace Go.AM
attribute [local instance] fnMaps
open Go Go.Proofs
set_option maxRecDepth 100000
set_option maxHeartbeats 4000000
set_option linter.unusedSimpArgs false
theorem zcy(H:Heap)(aj:H.lo≤H.next){s:St}{w t f zl:Value}(hS:iQ H s w t f zl)(cx:sE s)(hl:s.words.length≤400)(lj:s.table.length≤100)(ft:s.bj.length≤100000)(ri: -9223372036854775808≤s.top∧s.top≤9223372036854775807):af E (aC 31) [df s w t f zl] H fun r H'=>
  ((ef s=0→∃ x y v,r= .tuple #[.agg #[x,y],v,.int .i64 0]∧fD H' x y (bU s)∧aZ (dd .i64) 1 H' v (aU s))∧(ef s≠0→r= .tuple #[.agg #[.slice none 0 0,.slice none 0 0],.slice none 0 0,.int .i64 4]))∧aq H H':=by
 have c1:=fun(X:Heap) (hx:X.lo≤X.next) (k:Ko H X)=>zhG X hx (hS.ko k) cx hl lj ri
 have c2:=fun(X:Heap) (hx:X.lo≤X.next) (k:Ko H X)=>rn X hx _ _ (hS.w.ko RW.mono k) cx.words
 have sF:=hS
 obtain⟨⟨wa,wc,rfl,⟨J8,Ep⟩,_⟩,_⟩:=hS.w
 obtain⟨⟨ta,tc,rfl,_⟩,_⟩:=hS.t
 obtain⟨⟨fa,fc,rfl,_⟩,_⟩:=hS.f
 obtain⟨⟨za,zc,rfl,⟨_,Rg⟩,yR⟩,_⟩:=hS.sl
 clear hS
 unfold df at c1
 refine aQ Tryz.f31 ?_
 simp only[Tryz.f31]
 unfold df
 simp(disch:=omega)only[↓aa,ab,simprocAttr,sa, *]
 refine af.mono (c1 _ ah aw) ?_
 rintro _ Y ⟨⟨mw,my⟩,sY⟩
 have kY:Ko H Y:=Ko.call aw sY
 have lY:=sY.lo;have nY:=sY.ag;have gY:=sY.objs
 simp(disch:=omega)only[sm,sl,sI]at lY nY gY
 have bY:=gY H.next (by omega)
 have lH:=gY (H.next+1) (by omega)
 simp(disch:=omega)only[sm,sl,sI]at bY lH
 clear sY gY c1
 by_cases h0:ef s=0
 ·obtain⟨vp,rfl,hP⟩:=mw h0
  have L:=IA h0
  have cP:(aU s).length≤1000000:=Ry (by omega) (by omega)
  have xn:=hP
  obtain⟨⟨pa,pc,rfl,⟨_,pm⟩,mf⟩, -⟩:=hP
  clear mw my
  simp(disch:=omega)only[↓aa,ab,simprocAttr,sa,sI, *]
  all_goals try omega
  refine bC Y [1,2,5,7,8] (fun T6 H6 u6 j6 n6 l6 g6=>?_) bL
  try simp(disch:=omega)only[sm,sl,sI]at n6 l6 g6
  simp only[sq,simprocAttr]at u6
  refine bt kq (fun nn T X=>∃ (i:Nat) (v:Value) (cs:List Value) (f:Option (Nat×Nat)),nn=(aU s).length-i∧(T.get 8=some (.int .i64 i))∧(T.get 1=T6.get 1∧T.get 2=T6.get 2∧T.get 5=T6.get 5∧T.get 7=T6.get 7)∧True∧True∧(i≤(aU s).length∧b8 (Y.next+1) 3 X v i cs f∧dD kg 3 X cs (((aU s).take i).map (qe s.words (aU s)))∧X.objs.get Y.next=some (.row [v,.slice none 0 0] none true)∧Y.next+1≤X.next∧Ko Y X∧X.lo=Y.lo)) ?_ ?_
  ·have b1:=g6 Y.next
   rw[cB rfl,wai]at b1
   refine⟨_,0,.slice none 0 0,List.nil,none,rfl,?_,?_,trivial,trivial,wJ _,b8.nil _ _ _,dD.nil _ _ _,b1,by omega,j6,l6⟩<;>exact ay
  rintro nn xh X6 ⟨i,v,cs,f,rfl,m6,w6,_,_,hi,hO,hE,BM,hn6,qg,Q3⟩ Qs hQ aD ai
  have BN:=kY.trans qg
  have J9:=(qg.objs H.next (by omega)).trans bY
  by_cases hlt:i<(aU s).length
  ·have ziK:=mf
   obtain⟨r,o,cells,gg,tt,part,rfl,hr,aG,a8,rfl⟩:=mf i (aU s)[i] (by simp)
   have a1:=bI hlt
   have e1:=(qg.objs r hr).trans aG
   have q0:=pQ a8
   have xb:(aU s)[i]∈aU s:=wam hlt
   have iU:(aU s).take (i+1)=(aU s).take i++[(aU s)[i]]:=by rw[wR,wj hlt];rfl
   generalize (aU s)[i]=p at*
   have nw:=L.obj p xb
   have BO:=L.vJ p xb
   obtain⟨h1,h2,h3,h4,h5⟩:=kE nw
   have h6:=jO h3
   have bh:cu (aT s.words p)=1+(aT s.words p).fields+(aT s.words p).bO:=by unfold cu;rw[wF h3]
   have c3:=fun(X:Heap) (hx:X.lo≤X.next) (k:Ko H X)=>c2 X hx k p (by omega) (by omega)
   rw[nw]at c3
   obtain⟨p',rfl⟩:=wbz h1
   have EU:s.words≠[]:=fun e=>by rw[e]at h2;simp at h2;omega
   obtain⟨wr,wc2,zhW,wg,wt,ew,lf,uP,xA⟩:=Rz sF.w EU
   simp only[waq,wbT]at ew
   obtain⟨rfl,rfl⟩:=ew
   have eW:=(BN.objs wr lf).trans uP
   obtain⟨tg,xB⟩:=J2 nw
   have xC:=fun k=>J3 (k:=k) nw
   have oT:ry s.words p'=(s.words.drop (p'+1+(aT s.words p').fields.toNat)).take (aT s.words p').bO.toNat:=rfl
   have BP:qe s.words (aU s) p'=⟨(aT s.words p').kind,(qd s.words p').map (ey (aU s)),ry s.words p'⟩:=rfl
   clear h5 nw h3
   generalize aT s.words p'=hd at*
   generalize qd s.words p'=fs at*
   generalize ry s.words p'=rs at*
   obtain⟨F,hF⟩:∃ F:Nat,hd.fields=F:=⟨hd.fields.toNat,by omega⟩
   obtain⟨R,hR⟩:∃ R:Nat,hd.bO=R:=⟨hd.bO.toNat,by omega⟩
   simp only[bK,hF,hR]at c3
   rw[hF]at BO tg xC oT h6 bh
   rw[hR]at xB oT h6 bh
   simp only[waD]at tg xB xC oT
   repeat'(first|(apply ao<;>intro)|refine az 8 [Fx,Fx,Fx,Fx,Fx,Fx,Fx,Fx,Fx,Fx,Fx,Fx,Fx] ?_|((with_reducible show af _ _ _ _ _);refine ak X6 (c3 _ ah (BN.trans aw)) ?_;intro H2 k2 l2 n2 g2 q2;try simp(disch:=omega)only[sm,sl,sI]at l2 n2 g2 q2)|((with_reducible show Qs _ _ _ _ _);refine ai _ _ _ _ ?_)|simp(disch:=omega)only[↓aa,ab,simprocAttr,sa,sI, *])
   all_goals try omega
   have fO:=hQ
   have fG:=(yl xA).2.1
   have eXw:=J9
   refine bC X6 [1,2,5,7,8,9,11,12] (fun T7 H7 u7 j7 n7 l7 g7=>?_) bL
   try simp(disch:=omega)only[sm,sl,sI]at n7 l7 g7
   simp only[sq,simprocAttr]at u7
   refine bt kq (fun nn T X=>∃ (j:Nat) (vf:Value) (ff:Option (Nat×Nat)),nn=F-j∧(T.get 12=some (.int .i64 j))∧(T.get 1=T7.get 1∧T.get 2=T7.get 2∧T.get 5=T7.get 5∧T.get 7=T7.get 7∧T.get 8=T7.get 8∧T.get 9=T7.get 9∧T.get 11=T7.get 11)∧True∧True∧(j≤F∧b8 (Y.next+1) 2 X vf j (((fs.take j).map (ey (aU s))).flatMap cy) ff∧b8 (Y.next+1) 3 X v i cs f∧pA ff f∧gT X6 X∧X.objs.get (H2.next+1)=some (.row [.int .i64 hd.kind,vf,.slice none 0 0] none true)∧X.objs.get H2.next=some (.row [.int .i64 hd.kind,.int .i64 F,.int .i64 R,.bool hd.mark,.int .i64 hd.fq] none true)∧X.objs.get Y.next=some (.row [v,.slice none 0 0] none true)∧H2.next+2≤X.next∧Ko Y X∧X.lo=Y.lo)) ?_ ?_
   ·have b1:=g7 H2.next
    have b2:=g7 (H2.next+1)
    have b3:=(j7.objs Y.next (by omega)).trans BM
    simp(disch:=omega)only[sm,sl,sI]at b1 b2
    refine⟨_,0,.slice none 0 0,none,rfl,?_,?_,trivial,trivial,wJ _,b8.nil _ _ _,hO.ko j7,trivial,j7.il,b2,b1,b3,by omega,qg.trans j7,by omega⟩<;>exact ay
   rintro nn En X7 ⟨j,vf,ff,rfl,m7,w7,_,_,hj,nG,xD,Ka,BQ,BR,BS,BU,hn7,ou,Q4⟩ Qs hQ aD ai
   have BV:=kY.trans ou
   have eX7:=(ou.objs H.next (by omega)).trans bY
   by_cases pn:j<F
   ·have zi:j<fs.length:=by omega
    have EX:p'+1+j<s.words.length:=by omega
    have a3:at? ((p':Int)+1+(j:Int)) s.words.length=some (p'+1+j):=by
     rw[show(p':Int)+1+(j:Int)=((p'+1+j:Nat):Int) by omega];exact bI EX
    have qw:=J7 xA EX
    rw[wau]at qw
    have Kb:=(BV.objs wr lf).trans uP
    have e7:=(ou.objs r hr).trans aG
    have cp:uO (aU s) fs[j]∧fs[j]<2^64∧s.words[p'+1+j]=fs[j]:=by
     have h:=xC j pn
     rw[wj zi,wi]at h
     have hq:cY s.words (p'+1+j)=s.words[p'+1+j]:=by
      unfold cY
      rw[wav,show((p':Int)+1+j).toNat=p'+1+j by omega,wj EX];rfl
     rw[h]
     refine⟨BO j (by omega),?_,hq.symm⟩
     rw[hq]
     exact cx.words _ (wam EX)
    have BW:fs.take (j+1)=fs.take j++[fs[j]]:=by rw[wR,wj zi];rfl
    obtain⟨cp,kJ,qu⟩:=cp
    rw[qu]at qw
    generalize fs[j]=u at*
    simp only[wV]at qw
    clear qu
    have tnw:((p':Int)+1+(j:Int)).toNat=p'+1+j:=by omega
    repeat'(first|(apply ao<;>intro)|refine az 13 [Fx,Fx,Fx,Fx,Fx,Fx,Fx,Fx,Fx,Fx,Fx,Fx,Fx,Fx,Tx,Fx,Fx,Fx,Fx] ?_|((with_reducible show Qs _ _ _ _ _);refine ai _ _ _ _ ?_)|simp(disch:=omega)only[↓aa,ab,simprocAttr,sa,sI, *])
    all_goals try omega
    refine af.mono (Re _ (by simp(disch:=omega)only[sm,sl,sI];omega) _ _ (xn.ko (dd.mono _) (ou.trans aw)) u kJ cp) ?_
    rintro _ Z ⟨rfl,sZ⟩
    have kZ:Ko X7 Z:=Ko.call aw sZ
    have lZ:=sZ.lo;have nZ:=sZ.ag
    simp(disch:=omega)only[sm,sl,sI]at lZ nZ
    have ib:((fs.take (j+1)).map (ey (aU s))).flatMap cy=((fs.take j).map (ey (aU s))).flatMap cy++cy (ey (aU s) u):=by rw[BW,waT,wbd];simp
    have z1:=(kZ.objs (H2.next+1) (by omega)).trans BR
    have z2:=(kZ.objs H2.next (by omega)).trans BS
    have z3:=(kZ.objs Y.next (by omega)).trans BU
    generalize ey (aU s) u=tv at*
    obtain⟨Z2,xE,qi,gS,dE,ov,nI⟩:=qJ (bytes:=16) (k:=1) (new:=cy tv) (nG.ko (H':=(Z.cd H.lo).newRow (cy tv)) aw) (by simp(disch:=omega)only[sm,sl,sI];omega) (by simp(disch:=omega)only[sm,sl,sI];omega) (by decide) rfl rfl (rq (by omega))
    obtain⟨eO,gQ⟩:=nI _ _ _ _ _ (xD.ko (H':=(Z.cd H.lo).newRow (cy tv)) aw) Ka
    have y1:=dE.alone _ _ _ (by simp(disch:=omega)only[sm,sl,sI];omega) ((by simp(disch:=omega)only[sm,sl,sI];exact z1):((Z.cd H.lo).newRow (cy tv)).objs.get (H2.next+1)=_)
    have y2:=dE.alone _ _ _ (by simp(disch:=omega)only[sm,sl,sI];omega) ((by simp(disch:=omega)only[sm,sl,sI];exact z2):((Z.cd H.lo).newRow (cy tv)).objs.get H2.next=_)
    have y3:=dE.alone _ _ _ (by simp(disch:=omega)only[sm,sl,sI];omega) ((by simp(disch:=omega)only[sm,sl,sI];exact z3):((Z.cd H.lo).newRow (cy tv)).objs.get Y.next=_)
    rw[←ib]at gS
    have nt:=dE.lo
    have ox:Ko Y Z2:=Down.ko dE.low (X:=Y) (ou.trans aw) (by omega)
    have kP:gT X7 Z2:=(Ko.il (H':=(Z.cd H.lo).newRow (cy tv)) aw).trans dE.il
    simp(disch:=omega)only[sm,sl,sI]at ov nt
    unfold cy at qi
    have EW:=nG.sv
    simp only[aB,aE]at gS
    clear nG xD BW nI ib
    simp(disch:=omega)only[↓aa,ab,simprocAttr,sa,sI,cC,iN,eF,cX,sK, *]
    all_goals try omega
    refine hQ _ _ _ ?_ ⟨j+1,_,xE,rfl,?_,?_,trivial,trivial,by omega,gS.ot y1,eO.ot y1,gQ,(BQ.trans kP).trans (qf y1),by simp(disch:=omega)only[sm,sl,sI],by simp(disch:=omega)only[sm,sl,sI];exact y2,by simp(disch:=omega)only[sm,sl,sI];exact y3,by simp(disch:=omega)only[sm,sl,sI];omega,ox.setRow (by omega) _,by simp(disch:=omega)only[sm,sl,sI];omega⟩<;>exact ay
   ·have ej:j=F:=by omega
    subst ej
    rw[wZ (by omega)]at nG
    have zj:im dP 2 X7 vf (fs.map (ey (aU s))):=nG.oS (by rw[wO,tg]) (by omega) EO
    obtain⟨va,vc,BX⟩:=zj.form
    rw[wO,tg]at BX
    subst BX
    clear nG
    repeat'(first|(apply ao<;>intro)|refine az 13 [Fx,Fx,Fx,Fx,Fx,Fx,Fx,Fx,Fx,Fx,Fx,Fx,Fx,Fx,Tx,Fx,Fx,Fx,Fx] ?_|((with_reducible show Qs _ _ _ _ _);refine ai _ _ _ _ ?_)|simp(disch:=omega)only[↓aa,ab,simprocAttr,sa,sI, *])
    all_goals try omega
    refine bC X7 [1,2,5,7,8,9,11,13] (fun T9 H9 u9 j9 n9 l9 g9=>?_) bL
    try simp(disch:=omega)only[sm,sl,sI]at n9 l9 g9
    simp only[sq,simprocAttr]at u9
    refine bt kq (fun nn T X=>∃ (m:Nat) (vr:Value) (fr:Option (Nat×Nat)),nn=R-m∧(T.get 13=some (.int .i64 m))∧(T.get 1=T9.get 1∧T.get 2=T9.get 2∧T.get 5=T9.get 5∧T.get 7=T9.get 7∧T.get 8=T9.get 8∧T.get 9=T9.get 9∧T.get 11=T9.get 11)∧True∧True∧(m≤R∧b8 (Y.next+1) 1 X vr m ((rs.take m).map wV) fr∧b8 (Y.next+1) 3 X v i cs f∧pA fr f∧gT X7 X∧X.objs.get (H2.next+1)=some (.row [.int .i64 hd.kind,.slice va j vc,vr] none true)∧X.objs.get H2.next=some (.row [.int .i64 hd.kind,.int .i64 j,.int .i64 R,.bool hd.mark,.int .i64 hd.fq] none true)∧X.objs.get Y.next=some (.row [v,.slice none 0 0] none true)∧H2.next+2≤X.next∧Ko Y X∧X.lo=Y.lo)) ?_ ?_
    ·have b1:=(j9.objs H2.next (by omega)).trans BS
     have b2:=(j9.objs (H2.next+1) (by omega)).trans BR
     have b3:=(j9.objs Y.next (by omega)).trans BU
     refine⟨_,0,.slice none 0 0,none,rfl,?_,?_,trivial,trivial,wJ _,b8.nil _ _ _,xD.ko j9,trivial,j9.il,b2,b1,b3,by omega,ou.trans j9,by omega⟩<;>exact ay
    rintro nn T9' X9 ⟨m,vr,fr,rfl,m9,w9,_,_,hm,zk,Ki,hD9,Kj,b9n,b9h,RH,uu,Cc,lX9⟩ Qs hQ aD ai
    have kH9:=kY.trans Cc
    have eX9:=(Cc.objs H.next (by omega)).trans bY
    by_cases mZ:m<R
    ·have zG:m<rs.length:=by omega
     have Kk:p'+1+j+m<s.words.length:=by omega
     have a3:at? ((p':Int)+1+(j:Int)+(m:Int)) s.words.length=some (p'+1+j+m):=by
      rw[show(p':Int)+1+(j:Int)+(m:Int)=((p'+1+j+m:Nat):Int) by omega];exact bI Kk
     have tnw:((p':Int)+1+(j:Int)+(m:Int)).toNat=p'+1+j+m:=by omega
     have qw:=J7 xA Kk
     rw[wau]at qw
     have eW9:=(kH9.objs wr lf).trans uP
     have e9:=(Cc.objs r hr).trans aG
     have qu:s.words[p'+1+j+m]=rs[m]:=by
      have e:rs[m]? =s.words[p'+1+j+m]? :=by rw[oT,wab,wF mZ,wae]
      rw[wj zG,wj Kk,wi]at e
      exact e.symm
     rw[qu]at qw
     have ib:(rs.take (m+1)).map wV=(rs.take m).map wV++[wV rs[m]]:=by rw[wR,wj zG,waT];rfl
     clear qu oT
     generalize rs[m]=u at*
     simp only[wV]at qw
     obtain⟨Z2,oa,qi,gS,dE,ov,nI⟩:=qJ (bytes:=8) (k:=1) (new:=[wV u]) (zk.ko (H':=X9.newRow [wV u]) aw) (by simp(disch:=omega)only[sm,sl,sI];omega) (by simp(disch:=omega)only[sm,sl,sI];omega) (by decide) rfl rfl (mW (by omega))
     obtain⟨eO,gQ⟩:=nI _ _ _ _ _ (Ki.ko (H':=X9.newRow [wV u]) aw) hD9
     have y1:=dE.alone _ _ _ (by simp(disch:=omega)only[sm,sl,sI];omega) ((by simp(disch:=omega)only[sm,sl,sI];exact b9n):(X9.newRow [wV u]).objs.get (H2.next+1)=_)
     have y2:=dE.alone _ _ _ (by simp(disch:=omega)only[sm,sl,sI];omega) ((by simp(disch:=omega)only[sm,sl,sI];exact b9h):(X9.newRow [wV u]).objs.get H2.next=_)
     have y3:=dE.alone _ _ _ (by simp(disch:=omega)only[sm,sl,sI];omega) ((by simp(disch:=omega)only[sm,sl,sI];exact RH):(X9.newRow [wV u]).objs.get Y.next=_)
     rw[←ib]at gS
     have nt:=dE.lo
     have ox:Ko Y Z2:=Down.ko dE.low (X:=Y) (Cc.trans aw) (by omega)
     have kP:gT X9 Z2:=(Ko.il (H':=X9.newRow [wV u]) aw).trans dE.il
     simp(disch:=omega)only[sm,sl,sI]at ov nt
     simp only[wV]at qi
     have EW:=zk.sv
     simp only[aB,aE]at gS
     clear zk Ki nI ib
     repeat'(first|(apply ao<;>intro)|refine az 17 [Fx,Fx,Fx,Fx,Fx,Fx,Fx,Fx,Fx,Fx,Fx,Fx,Fx,Fx,Fx,Fx,Fx,Fx,Fx,Fx] ?_|((with_reducible show Qs _ _ _ _ _);refine ai _ _ _ _ ?_)|simp(disch:=omega)only[↓aa,ab,simprocAttr,sa,sI,cC,iN,eF,sK, *])
     all_goals try omega
     refine hQ _ _ _ ?_ ⟨m+1,_,oa,rfl,?_,?_,trivial,trivial,by omega,gS.ot y1,eO.ot y1,gQ,(Kj.trans kP).trans (qf y1),by simp(disch:=omega)only[sm,sl,sI],by simp(disch:=omega)only[sm,sl,sI];exact y2,by simp(disch:=omega)only[sm,sl,sI];exact y3,by simp(disch:=omega)only[sm,sl,sI];omega,ox.setRow (by omega) _,by simp(disch:=omega)only[sm,sl,sI];omega⟩<;>exact ay
    ·have em:m=R:=by omega
     subst em
     rw[wZ (by omega)]at zk
     have iL:im RW 1 X9 vr rs:=zk.oS (by omega) (by omega) ⟨by simp,fun i x h=>⟨_,OC h,rfl⟩⟩
     obtain⟨ra,rc,RI⟩:=iL.form
     rw[xB]at RI
     subst RI
     clear zk oT
     have z5:(X9.newRow [.int .i64 hd.kind,.slice va j vc,.slice ra m rc]).objs.get Y.next=some (.row [v,.slice none 0 0] none true):=by simp(disch:=omega)only[sm,sl,sI];exact RH
     obtain⟨Z2,f2,qi,eO,dE,ov, -⟩:=qJ (bytes:=56) (k:=1) (new:=[.int .i64 hd.kind,.slice va j vc,.slice ra m rc]) (Ki.ko (H':=X9.newRow [.int .i64 hd.kind,.slice va j vc,.slice ra m rc]) aw) (by simp(disch:=omega)only[sm,sl,sI];omega) (by simp(disch:=omega)only[sm,sl,sI];omega) (by decide) rfl (by have:=zj.cell;have:=iL.cell;simp[*,Hi]) (RA (by omega))
     have kP:gT X9 Z2:=(Ko.il (H':=X9.newRow [.int .i64 hd.kind,.slice va j vc,.slice ra m rc]) aw).trans dE.il
     have y3:=dE.alone _ _ _ (by simp(disch:=omega)only[sm,sl,sI];omega) z5
     have nt:=dE.lo
     have ox:Ko Y Z2:=Down.ko dE.low (X:=Y) (Cc.trans aw) (by omega)
     have sT:=((hE.g kg.mono ((BQ.trans Kj).trans kP)).snoc (part:=[.int .i64 hd.kind,.slice va j vc,.slice ra m rc]) (x:=⟨hd.kind,fs.map (ey (aU s)),rs⟩) rfl ⟨_,_,rfl,zj.ext dP.te (Kj.trans kP),iL.ext RW.te kP⟩)
     have Ke:dD kg 3 Z2 (cs++[.int .i64 hd.kind,.slice va j vc,.slice ra m rc]) (((aU s).take (i+1)).map (qe s.words (aU s))):=by rw[iU,waT,List.map_singleton,BP];exact sT
     simp(disch:=omega)only[sm,sl,sI]at ov nt
     simp only[aB,aJ]at eO
     have hQ:=fO
     clear sT BP iU
     repeat'(first|(apply ao<;>intro)|refine az 17 [Fx,Fx,Fx,Fx,Fx,Fx,Fx,Fx,Fx,Fx,Fx,Fx,Fx,Fx,Fx,Fx,Fx,Fx,Fx,Fx] ?_|((with_reducible show Qs _ _ _ _ _);refine ai _ _ _ _ ?_)|simp(disch:=omega)only[↓aa,ab,simprocAttr,sa,sI,cC,iN,eF, *])
     all_goals try omega
     refine hQ _ _ _ ?_ ⟨i+1,_,_,f2,rfl,?_,?_,trivial,trivial,by omega,eO.ot y3,Ke.g kg.mono (qf y3),by simp(disch:=omega)only[sm,sl,sI],by simp(disch:=omega)only[sm,sl,sI];omega,ox.setRow (wy _) _,by simp(disch:=omega)only[sm,sl,sI];omega⟩<;>exact ay
  ·have ei:i=(aU s).length:=by omega
   rw[ei,waj]at hE
   repeat'(first|(apply ao<;>intro)|refine az 8 [Fx,Fx,Fx,Fx,Fx,Fx,Fx,Fx,Fx,Fx,Fx,Fx,Fx] ?_|((with_reducible show Qs _ _ _ _ _);refine ai _ _ _ _ ?_)|simp(disch:=omega)only[↓aa,ab,simprocAttr,sa,sI, *])
   all_goals try omega
   refine bC X6 [1,2,5,7,14] (fun T8 H8 u8 j8 n8 l8 g8=>?_) bL
   try simp(disch:=omega)only[sm,sl,sI]at n8 l8 g8
   simp only[sq,simprocAttr]at u8
   refine bt kq (fun nn T X=>∃ (k:Nat) (vr:Value) (fr:Option (Nat×Nat)),nn=s.bj.length-k∧(T.get 14=some (.int .i64 k))∧(T.get 1=T8.get 1∧T.get 2=T8.get 2∧T.get 5=T8.get 5∧T.get 7=T8.get 7)∧True∧True∧(k≤s.bj.length∧b8 (Y.next+1) 2 X vr (fN (s.bj.take k) (aU s)).length ((fN (s.bj.take k) (aU s)).flatMap cy) fr∧b8 (Y.next+1) 3 X v i cs f∧pA fr f∧gT X6 X∧X.objs.get Y.next=some (.row [v,vr] none true)∧Y.next+1≤X.next∧Ko Y X∧X.lo=Y.lo)) ?_ ?_
   ·have b3:=(j8.objs Y.next (by omega)).trans BM
    refine⟨_,0,.slice none 0 0,none,rfl,?_,?_,trivial,trivial,wJ _,b8.nil _ _ _,hO.ko j8,trivial,j8.il,b3,by omega,qg.trans j8,by omega⟩<;>exact ay
   rintro nn IG X8 ⟨k,vr,fr,rfl,m8,w8,_,_,hk,jB,qj,BY,xF,BZ,hn8,nJ,lX8⟩ Qs hQ aD ai
   have Kf:=kY.trans nJ
   have Kg:=(nJ.objs H.next (by omega)).trans bY
   by_cases nk:k<s.bj.length
   ·obtain⟨r,o,cells,gg,tt,part,rfl,hr,aG,a8,rfl⟩:=yR k s.bj[k] (by simp)
    have a1:=bI nk
    have e1:=(Kf.objs r hr).trans aG
    unfold uw at a8
    obtain⟨q0,q1,q2⟩:=vL a8
    have ur:s.bj[k]∈s.bj:=wam nk
    have iU:s.bj.take (k+1)=s.bj.take k++[s.bj[k]]:=by rw[wR,wj nk];rfl
    have kJ:=cx.bj _ ur
    have cp:=L.slot _ ur
    generalize s.bj[k]=x at*
    have jC:fN (s.bj.take (k+1)) (aU s)=if x.used=true then fN (s.bj.take k) (aU s)++[ey (aU s) x.word]else fN (s.bj.take k) (aU s):=by
     unfold fN
     rw[iU,List.filter_append,waT]
     cases hu:x.used<;>simp[hu]
    have gi:(fN (s.bj.take k) (aU s)).length≤k:=by
     unfold fN
     rw[wO]
     have:=wb5 (fun y:Slot=>y.used) (s.bj.take k)
     rw[wU]at this
     omega
    generalize fN (s.bj.take k) (aU s)=RL at*
    clear iU
    cases hu:x.used with
    |false=>
     rw[hu]at jC q0
     rw[wI (by simp)]at jC
     rw[←jC]at jB
     clear jC aG a8
     repeat'(first|(apply ao<;>intro)|((with_reducible show Qs _ _ _ _ _);refine ai _ _ _ _ ?_)|simp(disch:=omega)only[↓aa,ab,simprocAttr,sa,sI, *])
     all_goals try omega
     refine hQ _ _ _ ?_ ⟨k+1,_,fr,rfl,?_,?_,trivial,trivial,by omega,jB,qj,BY,xF,BZ,by omega,nJ,by omega⟩<;>exact ay
    |true=>
     rw[hu]at jC q0
     rw[wF rfl]at jC
     clear aG a8
     repeat'(first|(apply ao<;>intro)|refine az 23 [Fx,Fx,Fx,Fx,Fx,Fx,Fx,Fx,Fx,Tx,Fx,Fx,Fx,Fx] ?_|((with_reducible show Qs _ _ _ _ _);refine ai _ _ _ _ ?_)|simp(disch:=omega)only[↓aa,ab,simprocAttr,sa,sI, *])
     all_goals try omega
     refine af.mono (Re _ (by simp(disch:=omega)only[sm,sl,sI];omega) _ _ (xn.ko (dd.mono _) (nJ.trans aw)) x.word kJ (cp hu)) ?_
     rintro _ Z ⟨rfl,sZ⟩
     have kZ:Ko X8 Z:=Ko.call aw sZ
     have lZ:=sZ.lo;have nZ:=sZ.ag
     simp(disch:=omega)only[sm,sl,sI]at lZ nZ
     have z3:=(kZ.objs Y.next (by omega)).trans BZ
     have ib:(RL++[ey (aU s) x.word]).flatMap cy=RL.flatMap cy++cy (ey (aU s) x.word):=by rw[wbd];simp
     generalize ey (aU s) x.word=tv at*
     obtain⟨Z2,xE,qi,gS,dE,ov,nI⟩:=qJ (bytes:=16) (k:=1) (new:=cy tv) (jB.ko (H':=(Z.cd H.lo).newRow (cy tv)) aw) (by simp(disch:=omega)only[sm,sl,sI];omega) (by simp(disch:=omega)only[sm,sl,sI];omega) (by decide) rfl rfl (rq (by omega))
     obtain⟨eO,gQ⟩:=nI _ _ _ _ _ (qj.ko (H':=(Z.cd H.lo).newRow (cy tv)) aw) BY
     have y3:=dE.alone _ _ _ (by simp(disch:=omega)only[sm,sl,sI];omega) ((by simp(disch:=omega)only[sm,sl,sI];exact z3):((Z.cd H.lo).newRow (cy tv)).objs.get Y.next=_)
     have nt:=dE.lo
     have ox:Ko Y Z2:=Down.ko dE.low (X:=Y) (nJ.trans aw) (by omega)
     have kP:gT X8 Z2:=(Ko.il (H':=(Z.cd H.lo).newRow (cy tv)) aw).trans dE.il
     rw[←ib,←jC]at gS
     have gF:RL.length+1=(fN (s.bj.take (k+1)) (aU s)).length:=by rw[jC,wN];rfl
     rw[gF]at gS
     simp(disch:=omega)only[sm,sl,sI]at ov nt
     unfold cy at qi
     have EW:=jB.sv
     clear jB qj nI ib
     clear jC
     simp only[aB,aE]at gS
     simp(disch:=omega)only[↓aa,ab,simprocAttr,sa,sI,cC,iN,eF,cX,sK, *]
     all_goals try omega
     refine hQ _ _ _ ?_ ⟨k+1,_,xE,rfl,?_,?_,trivial,trivial,by omega,gS.ot y3,eO.ot y3,gQ,(xF.trans kP).trans (qf y3),by simp(disch:=omega)only[sm,sl,sI],by simp(disch:=omega)only[sm,sl,sI];omega,ox.setRow (wy _) _,by simp(disch:=omega)only[sm,sl,sI];omega⟩<;>exact ay
   ·have ek:k=s.bj.length:=by omega
    rw[ek,waj]at jB
    have zf:=(nJ.objs (H.next+1) (by omega)).trans lH
    have B2:fN s.bj (aU s)=(bU s).roots:=rfl
    have Ca:(aU s).map (qe s.words (aU s))=(bU s).nodes:=rfl
    have gi:(bU s).roots.length≤100000:=by
     rw[←B2]
     unfold fN
     rw[wO]
     have:=wb5 (fun y:Slot=>y.used) s.bj
     omega
    rw[B2]at jB
    rw[Ca]at hE
    have g1:im kg 3 X8 v (bU s).nodes:=qj.oS (by rw[←Ca,wO,ei]) (by omega) (hE.g kg.mono xF)
    have g2:im dP 2 X8 vr (bU s).roots:=jB.oS rfl (by omega) EO
    have Cb:=qf (c':=[v,vr]) zf
    have hG:fD (X8.setRow (H.next+1) [v,vr]) v vr (bU s):=⟨(g1.ext kg.mono Cb).qV.imp fun _ _ h=>h.nd,(g2.ext dP.te Cb).qV⟩
    have hI:=RC (c:=[v,vr]) (xn.ko (dd.mono _) nJ) zf (fun _ q=>by cases q) (fun _ q=>by cases q)
    obtain⟨_,_,hv⟩:=g1.form
    obtain⟨_,_,Kh⟩:=g2.form
    subst hv Kh
    clear g1 g2 jB qj hE hO
    repeat'(first|(apply ao<;>intro)|((with_reducible show Qs _ _ _ _ _);refine ai _ _ _ _ ?_)|simp(disch:=omega)only[↓aa,ab,simprocAttr,sa,sI, *])
    all_goals try omega
    refine⟨?_,aF⟩
    first|exact⟨fun _=>⟨_,_,_,rfl,hG,hI⟩,fun q=>q.elim⟩|exact⟨fun _=>⟨_,_,_,rfl,hG,hI⟩,fun q=>absurd rfl q⟩
 ·have e:=my h0
  clear mw my
  subst e
  simp(disch:=omega)only[↓aa,ab,simprocAttr,sa, *]
  all_goals try omega
  refine⟨?_,aF⟩
  first|exact⟨fun q=>absurd q h0,fun _=>rfl⟩|exact⟨fun q=>q.elim,fun _=>trivial⟩
theorem Bv{f h:Nat→Nat}:∀ {l:List Nat},(∀i∈l,f i=h i)→cZ f l=cZ h l
 |[],_=>rfl
 |x::l,e=>by
  simp only[cZ]
  rw[e x (wW ..),Bv fun i hi=>e i (wM _ hi)]
theorem I4:∀ l:List Nat,cZ (fun _=>0) l=0
 |[]=>rfl
 |x::l=>by simp only[cZ,I4 l]
theorem Qc:∀ l:List Nat,cZ (fun _=>1) l=l.length
 |[]=>rfl
 |x::l=>by simp only[cZ,Qc l,wY];omega
theorem zcw{g:Gr}{aX:Int}{S L:List Nat}(h:oo g aX S L):xf g aX (S++L)=⟨cZ (gO g) S,S.length+L.length,cZ (fun i=>(dg g i).length) S+cZ (fun i=>(dg g i).length) L,L.length⟩:=by
 have h1:cZ (pR g aX) S=cZ (gO g) S:=Bv fun i hi=>wI (h.1 i hi)
 have h2:cZ (pR g aX) L=0:=(Bv fun i hi=>wF (h.2 i hi)).trans (I4 L)
 have h3:cZ (pS g aX) S=0:=(Bv fun i hi=>wI (h.1 i hi)).trans (I4 S)
 have h4:cZ (pS g aX) L=L.length:=(Bv fun i hi=>wF (h.2 i hi)).trans (Qc L)
 unfold xf
 rw[A9,A9,A9,h1,h2,h3,h4,wN]
 simp
theorem Qd(H:Heap)(aj:H.lo≤H.next){x y:Value}{g:Gr}(hG:fD H x y g)(hg:gP g)(v:Value)(l:List Nat)(hv:aZ (dd .i64) 1 H v (dh l))(hl:∀ i∈l,i<g.nodes.length)(kU:l.length≤100000):
  af E (aC 33) [.agg #[x,y],v] H fun r H'=>r= .tuple #[.int .i64 (cZ (gO g) l),.int .i64 (cZ (fun i=>(dg g i).length) l)]∧aq H H':=by
 have hb:=fun L=>pI (f:=fun i=>(dg g i).length) (c:=4096) (yF hg) L
 have gu:=fun L=>pI (f:=gO g) (c:=8193) (HX hg) L
 obtain⟨⟨na,nc,rfl,⟨_,pN⟩,bJ⟩,_⟩:=hG.nodes
 obtain⟨⟨ra,rc,rfl,_⟩,_⟩:=hG.roots
 have fP:=xd l
 obtain⟨⟨pa,pc,rfl,⟨_,pm⟩,mf⟩, -⟩:=hv
 rw[fP]at pm
 refine aQ Tryz.f33 ?_
 simp only[Tryz.f33]
 rw[fP]
 simp(disch:=omega)only[↓aa,ab,simprocAttr,sa,sI, *]
 all_goals try omega
 refine bC H [1,2,6,7,8] (fun T5 H5 u5 k5 n5 l5 g5=>?_) bL
 try simp(disch:=omega)only[sm,sl,sI]at n5 l5 g5
 simp only[sq,simprocAttr]at u5
 refine bt kq (fun nn T X=>∃ (j A F:Nat),nn=l.length-j∧(T.get 6=some (.int .i64 A)∧T.get 7=some (.int .i64 F)∧T.get 8=some (.int .i64 j))∧(T.get 1=T5.get 1∧T.get 2=T5.get 2)∧Ko H5 X∧X.lo=H5.lo∧(j≤l.length∧A=cZ (gO g) (l.take j)∧F=cZ (fun i=>(dg g i).length) (l.take j))) ?_ ?_
 ·refine⟨_,0,0,0,rfl,?_,?_,Ko.refl _,rfl,⟨wJ _,rfl,rfl⟩⟩<;>exact ay
 rintro nn iB X5 ⟨j,A,F,rfl,m5,w5,ij,Bh,⟨hj,hA,hF⟩⟩ Qs hQ aD ai
 have fM:=k5.trans ij;have Bi:=ij.ag;have uG:=ij.objs
 have b1:=uG H.next (by omega)
 rw[g5]at b1
 simp(disch:=omega)only[aA,aM,aB,aJ,aH,aI,aN,aO,aR,aP,aL,aE,aK,au,sl]at b1
 by_cases hlt:j<l.length
 ·have ma:j<(dh l).length:=by omega
  obtain⟨r,q,cells,gg,tt,part,rfl,hr,aG,a8,rfl⟩:=mf j (dh l)[j] (by simp)
  have a1:=bI hlt
  have e1:=(fM.objs r hr).trans aG
  have q0:=pQ a8
  have mU:=hl l[j] (wam hlt)
  have cK:=Bj (fun i=>(dg g i).length) hlt
  have sn:=Bj (gO g) hlt
  have Iy:=hb (l.take j)
  have zcx:=gu (l.take j)
  have HR:(l.take j).length≤l.length:=by rw[wU];omega
  have Iz:=yF hg l[j]
  rw[Iw hlt]at q0
  generalize l[j]=i at*
  obtain⟨r2,o2,nq,g2,t2,xe,rfl,dW,jY,iV,f,w,rfl,hf,hw⟩:=bJ i g.nodes[i] (by simp)
  have a2:=bI mU
  have e2:=(fM.objs r2 dW).trans jY
  have lF:dg g i=g.nodes[i].fields:=Bg (wj mU)
  have bh:=HY (wj mU)
  have jd:=hg.node g.nodes[i] (wam mU)
  rw[lF]at cK Iz
  rw[bh]at sn
  generalize g.nodes[i]=nd at*
  have je:=hf;have jR:=hw
  obtain⟨⟨fa',fc',rfl,⟨_,fm⟩,_⟩,_⟩:=hf
  obtain⟨⟨wa',wc',rfl,⟨_,wm⟩,_⟩,_⟩:=hw
  obtain⟨-, -,o3,o4, -⟩:=jd
  obtain⟨w3,w4,w5⟩:=vL iV
  rw[←hA]at sn zcx
  rw[←hF]at cK Iy
  clear hA hF hb gu bh lF
  repeat'(first|(apply ao<;>intro)|refine az 6 [Fx,Fx,Fx,Fx,Fx,Fx,Fx,Fx,Fx,Fx,Fx,Fx,Fx,Fx,Fx] ?_|refine az 7 [Fx,Fx,Fx,Fx,Fx,Fx,Fx,Fx,Fx,Fx,Fx,Fx] ?_|refine az 8 [Fx,Fx,Fx,Fx,Fx,Fx,Fx,Fx,Fx,Fx,Fx,Fx,Fx] ?_|((with_reducible show af _ _ _ _ _);refine ak X5 (IV _ ah nd.kind _ _ nd (je.ko dP.mono (fM.trans aw)) (jR.ko RW.mono (fM.trans aw)) (by omega) (by omega)) ?_;intro H2 k2 l2 n2 g2 q2;try simp(disch:=omega)only[sm,sl,sI]at l2 n2 g2 q2)|((with_reducible show Qs _ _ _ _ _);refine ai _ _ _ _ ?_)|simp(disch:=omega)only[↓aa,ab,simprocAttr,sa,sI, *])
  all_goals try omega
  all_goals first|(refine hQ _ _ _ ?_ ⟨j+1,A+(1+nd.fields.length+nd.bO.length),F+nd.fields.length,rfl,?_,?_,?_,?_,⟨by omega,sn.symm,cK.symm⟩⟩<;>exact ay)|trace_state
 ·have ej:j=l.length:=by omega
  rw[ej,waj]at hA hF
  subst hA hF
  repeat'(first|(apply ao<;>intro)|refine az 6 [Fx,Fx,Fx,Fx,Fx,Fx,Fx,Fx,Fx,Fx,Fx,Fx,Fx,Fx,Fx] ?_|((with_reducible show Qs _ _ _ _ _);refine ai _ _ _ _ ?_)|simp(disch:=omega)only[↓aa,ab,simprocAttr,sa,sI, *])
  all_goals exact cf
theorem I5(H:Heap)(aj:H.lo≤H.next){s:St}{w t f zl:Value}(hS:Sx H s w t f zl):af E (aC 9) [df s w t f zl] H fun r H'=>r=gD s∧aq H H':=by
 have c1:=fun(X:Heap) (hx:X.lo≤X.next) (k:Ko H X)=>zcy X hx (hS.st.ko k) hS.ok hS.wl (wK hS.tl (by decide)) (wK hS.sl (by decide)) hS.top
 have iW:=hS.lx
 obtain⟨⟨wa,wc,rfl,_⟩,_⟩:=hS.st.w
 obtain⟨⟨ta,tc,rfl,_⟩,_⟩:=hS.st.t
 obtain⟨⟨fa,fc,rfl,_⟩,_⟩:=hS.st.f
 obtain⟨⟨za,zc,rfl,_⟩,_⟩:=hS.st.sl
 clear hS
 unfold df at c1
 refine aQ Tryz.f9 ?_
 simp only[Tryz.f9]
 unfold df
 simp(disch:=omega)only[↓aa,ab,simprocAttr,sa,sI, *]
 all_goals try omega
 refine af.mono (c1 _ (by simp(disch:=omega)only[sm,sl,sI];omega) bL) ?_
 rintro _ Y ⟨⟨mw,my⟩,sY⟩
 have kY:Ko H Y:=Ko.call bL sY
 have lY:=sY.lo;have nY:=sY.ag;have gY:=sY.objs
 simp(disch:=omega)only[sm,sl,sI]at lY nY gY
 have bY:=gY H.next (by omega)
 have lH:=gY (H.next+1) (by omega)
 simp(disch:=omega)only[sm,sl,sI]at bY lH
 clear sY gY c1
 by_cases h0:ef s=0
 ·obtain⟨x,y,v,rfl,hG, -⟩:=mw h0
  obtain⟨g1,g2,g3⟩:=iW h0
  have Qe:s.cfg.Ok:=wap (I6 s 9 0 h0 0 (wJ _) (by omega))
  have zcz:1≤s.cfg.fL:=by unfold cm.Ok at Qe;omega
  have mu:=hG
  obtain⟨⟨na,nc,rfl,_⟩,_⟩:=hG.nodes
  obtain⟨⟨ra,rc,rfl,_⟩,_⟩:=hG.roots
  clear Qe
  simp(disch:=omega)only[↓aa,ab,simprocAttr,sa,sI, *]
  all_goals try omega
  clear mw my iW
  have hnG:((Y.newRow [.slice none 0 0,.slice none 0 0]).setRow Y.next [.slice na (bU s).nodes.length nc,.slice ra (bU s).roots.length rc]).next=Y.next+1:=by simp(disch:=omega)only[sm,sl,sI]
  have hlG:((Y.newRow [.slice none 0 0,.slice none 0 0]).setRow Y.next [.slice na (bU s).nodes.length nc,.slice ra (bU s).roots.length rc]).lo=Y.lo:=by simp(disch:=omega)only[sm,sl,sI]
  have qY:Ko Y ((Y.newRow [.slice none 0 0,.slice none 0 0]).setRow Y.next [.slice na (bU s).nodes.length nc,.slice ra (bU s).roots.length rc]):=bL
  have Bl:((Y.newRow [.slice none 0 0,.slice none 0 0]).setRow Y.next [.slice na (bU s).nodes.length nc,.slice ra (bU s).roots.length rc]).objs.get Y.next=some (.row [.slice na (bU s).nodes.length nc,.slice ra (bU s).roots.length rc] none true):=by simp(disch:=omega)only[sm,sl,sI]
  generalize ((Y.newRow [.slice none 0 0,.slice none 0 0]).setRow Y.next [.slice na (bU s).nodes.length nc,.slice ra (bU s).roots.length rc])=G at*
  refine af.mono (zcu G (by omega) (mu.ko qY) g1 (by omega) (by omega) s.cfg.fL zcz) ?_
  rintro _ Z ⟨⟨v2,w2,S,L,rfl,hM,hz,Qf,Qg⟩,sZ⟩
  have kZ:Ko H Z:=(kY.trans qY).trans sZ.ko
  have lZ:=sZ.lo;have nZ:=sZ.ag
  have z2:=(sZ.objs (H.next+1) (by omega)).trans ((qY.objs (H.next+1) (by omega)).trans lH)
  have z3:=(sZ.objs Y.next (by omega)).trans Bl
  have yN:=(mu.ko qY).ko sZ.ko
  clear sZ Bl bY lH
  have kU:=hM.len
  rw[wN]at kU
  have c2:=fun(X:Heap) (hx:X.lo≤X.next) (k:Ko Z X)=>Qd X hx (yN.ko k) g1 v2 S (Qf.ko (dd.mono _) k) (fun i hi=>hM.lt i (List.mem_append_left _ hi)) (by omega)
  have c3:=fun(X:Heap) (hx:X.lo≤X.next) (k:Ko Z X)=>Qd X hx (yN.ko k) g1 w2 L (Qg.ko (dd.mono _) k) (fun i hi=>hM.lt i (List.mem_append_right _ hi)) (by omega)
  have jd:=Pu hM s.cfg.fL
  rw[zcw hz]at jd
  have hb:=fun L=>pI (f:=fun i=>(dg (bU s) i).length) (c:=4096) (yF g1) L
  have gu:=fun L=>pI (f:=gO (bU s)) (c:=8193) (HX g1) L
  have b1:=hb S;have b2:=hb L;have b3:=gu S
  clear hb gu
  have fP:=xd S
  have I7:=xd L
  obtain⟨⟨pa,pc,rfl,⟨_,pm⟩,_⟩, -⟩:=Qf
  obtain⟨⟨pa2,pc2,rfl,⟨_,pm2⟩,_⟩, -⟩:=Qg
  rw[fP]at pm
  rw[I7]at pm2
  rw[fP]at c2
  rw[I7]at c3
  rw[fP,I7]
  generalize cZ (fun i=>(dg (bU s) i).length) S=FS at*
  generalize cZ (fun i=>(dg (bU s) i).length) L=FL at*
  generalize cZ (gO (bU s)) S=WS at*
  generalize cZ (gO (bU s)) L=WL at*
  repeat'(first|((with_reducible show af _ _ _ _ _);(first|refine ak Z (c2 _ ah bL) ?_|refine ak Z (c3 _ ah bL) ?_);intro H2 k2 l2 n2 g2 q2;try simp(disch:=omega)only[sm,sl,sI]at l2 n2 g2 q2)|simp(disch:=omega)only[↓aa,ab,simprocAttr,sa,sI, *])
  all_goals try omega
  have Qh:Ko H H2:=kZ.trans k2
  refine⟨?_,Ko.same bL (by simp(disch:=omega)only[sm,sl,sI];omega)⟩
  unfold gD eL
  rw[wF h0,←jd]
  rfl
 ·rw[my h0]
  clear mw my
  simp(disch:=omega)only[↓aa,ab,simprocAttr,sa,sI, *]
  all_goals try omega
  refine⟨?_,Ko.same bL (by simp(disch:=omega)only[sm,sl,sI];omega)⟩
  unfold gD
  rw[wI h0]
  rfl
structure NdB(s:St):Prop where
 a0:0≤(eL s).a
 a1:(eL s).a≤5000000
 b0:0≤(eL s).b
 b1:(eL s).b≤5000000
 c0:0≤(eL s).c
 c1:(eL s).c≤5000000
 d0:0≤(eL s).d
 d1:(eL s).d≤5000000
theorem zcA(g:Gr):(sJ g).length≤g.nodes.length:=by
 unfold sJ
 split
 ·rename_i h
  exact(Exists.choose_spec h).len
 ·exact wJ _
theorem Lx.bd{s:St}(h:Lx s):NdB s:=by
 have h1:=zcA (bU s)
 have h2:=h.n
 have b1:=pI (Pv h.ok s.cfg.fL) (sJ (bU s))
 have b2:=pI (Pw (bU s) s.cfg.fL) (sJ (bU s))
 have b3:=pI (f:=fun i=>(dg (bU s) i).length) (c:=4096) (yF h.ok) (sJ (bU s))
 constructor<;>(unfold eL xf;dsimp only;omega)
noncomputable def mA(s:St):Int:=8*((eL s).a+(eL s).c+s.bj.length+s.table.length+1)
noncomputable def kK(s:St):Value:=if ef s=0 then .tuple #[.int .i64 (mA s),.int .i64 0]else .tuple #[.int .i64 0,.int .i64 4]
noncomputable def xo(s:St)(k:Wk4)(y:Int):Bool:=decide (ef s=0)&&(decide (k=eL s)&&decide (0≤y∧y≤mA s))
theorem Qi(H:Heap)(aj:H.lo≤H.next)(k:Wk4)(y o w f l:Int):af E (aC 34) [workV k y,.int .i64 o,.int .i64 w,.int .i64 f,.int .i64 l] H fun r H'=>r= .bool (decide (k=⟨w,o,f,l⟩))∧aq H H':=by
 have e:decide (k=⟨w,o,f,l⟩)=decide (k.b=o∧k.a=w∧k.c=f∧k.d=l):=decide_eq_decide.2 ⟨fun h=>by subst h;exact⟨rfl,rfl,rfl,rfl⟩,fun h=>by cases k;simp only at h;rw[h.1,h.2.1,h.2.2.1,h.2.2.2]⟩
 rw[e]
 clear e
 refine aQ Tryz.f34 ?_
 simp only[Tryz.f34]
 unfold workV
 repeat'(first|(apply ao<;>intro)|simp(disch:=omega)only[↓aa,ab,simprocAttr,sa, *])
 all_goals exact cf
theorem zcB(H:Heap)(aj:H.lo≤H.next)(k:Wk4)(y w f r l:Int)(w0:0≤w)(w1:w≤10000000)(f0:0≤f)(f1:f≤10000000)(r0:0≤r)(r1:r≤10000000)(l0:0≤l)(l1:l≤10000000):af E (aC 35) [workV k y,.int .i64 w,.int .i64 f,.int .i64 r,.int .i64 l] H fun r' H'=>r'= .bool (decide (k.a≤w∧k.c≤f∧0≤y∧y≤8*(1+w+f+r+l)))∧aq H H':=by
 refine aQ Tryz.f35 ?_
 simp only[Tryz.f35]
 unfold workV
 simp(disch:=omega)only[↓aa,ab,simprocAttr,sa, *]
 all_goals try omega
 refine bC H [1,2,5,11,18,19] (fun T5 H5 u5 k5 n5 l5 g5=>?_) bL
 try simp(disch:=omega)only[sm,sl,sI]at n5 l5 g5
 simp only[sq,simprocAttr]at u5
 refine bt kq (fun nn T X=>∃ (i:Nat) (M:Int),nn=4-i∧(T.get 11=some (.int .i64 M)∧T.get 19=some (.int .i64 i))∧(T.get 1=T5.get 1∧T.get 2=T5.get 2∧T.get 5=T5.get 5∧T.get 18=T5.get 18)∧Ko H5 X∧X.lo=H5.lo∧(i≤4∧(i=0→M=1)∧(i=1→M=1+w)∧(i=2→M=1+w+f)∧(i=3→M=1+w+f+r)∧(i=4→M=1+w+f+r+l))) ?_ ?_
 ·refine⟨_,0,1,rfl,?_,?_,Ko.refl _,rfl,⟨by omega,by omega,by omega,by omega,by omega,by omega⟩⟩<;>exact ay
 rintro nn iB X5 ⟨i,M,rfl,m5,w5,ij,Bh,⟨hi,h0,h1,h2,h3,h4⟩⟩ Qs hQ aD ai
 have fM:=k5.trans ij;have Bi:=ij.ag;have uG:=ij.objs
 have b1:=uG H.next (by omega)
 rw[g5]at b1
 simp(disch:=omega)only[aA,aM,aB,aJ,aH,aI,aN,aO,aR,aP,aL,aE,aK,au,sl]at b1
 match i,hi with
 |0,_=>
  have hM:=h0 rfl
  subst hM
  clear h0 h1 h2 h3 h4
  repeat'(first|(apply ao<;>intro)|apply bQ|((with_reducible show Qs _ _ _ _ _);refine aD _ _ _ ?_)|simp(disch:=omega)only[↓aa,ab,simprocAttr,sa, *,wcg])
  all_goals try omega
  all_goals first|(refine hQ _ _ _ ?_ ⟨1,1+w,rfl,?_,?_,?_,?_,⟨by omega,by omega,by omega,by omega,by omega,by omega⟩⟩<;>exact ay)|trace_state
 |1,_=>
  have hM:=h1 rfl
  subst hM
  clear h0 h1 h2 h3 h4
  repeat'(first|(apply ao<;>intro)|apply bQ|((with_reducible show Qs _ _ _ _ _);refine aD _ _ _ ?_)|simp(disch:=omega)only[↓aa,ab,simprocAttr,sa, *,Int.natCast_one])
  all_goals try omega
  all_goals first|(refine hQ _ _ _ ?_ ⟨2,1+w+f,rfl,?_,?_,?_,?_,⟨by omega,by omega,by omega,by omega,by omega,by omega⟩⟩<;>exact ay)|trace_state
 |2,_=>
  have hM:=h2 rfl
  subst hM
  clear h0 h1 h2 h3 h4
  repeat'(first|(apply ao<;>intro)|apply bQ|((with_reducible show Qs _ _ _ _ _);refine aD _ _ _ ?_)|simp(disch:=omega)only[↓aa,ab,simprocAttr,sa, *,Int.cast_ofNat_Int])
  all_goals try omega
  all_goals first|(refine hQ _ _ _ ?_ ⟨3,1+w+f+r,rfl,?_,?_,?_,?_,⟨by omega,by omega,by omega,by omega,by omega,by omega⟩⟩<;>exact ay)|trace_state
 |3,_=>
  have hM:=h3 rfl
  subst hM
  clear h0 h1 h2 h3 h4
  repeat'(first|(apply ao<;>intro)|apply bQ|((with_reducible show Qs _ _ _ _ _);refine aD _ _ _ ?_)|simp(disch:=omega)only[↓aa,ab,simprocAttr,sa, *,Int.cast_ofNat_Int])
  all_goals try omega
  all_goals first|(refine hQ _ _ _ ?_ ⟨4,1+w+f+r+l,rfl,?_,?_,?_,?_,⟨by omega,by omega,by omega,by omega,by omega,by omega⟩⟩<;>exact ay)|trace_state
 |4,_=>
  have hM:=h4 rfl
  subst hM
  clear h0 h1 h2 h3 h4
  repeat'(first|(apply ao<;>intro)|((with_reducible show Qs _ _ _ _ _);refine ai _ _ _ _ ?_)|simp(disch:=omega)only[↓aa,ab,simprocAttr,sa, *,Int.cast_ofNat_Int])
  all_goals exact cf
theorem Qj(H:Heap)(aj:H.lo≤H.next){s:St}{w t f zl:Value}(hS:Sx H s w t f zl)(k:Wk4)(y:Int):af E (aC 12) [df s w t f zl,workV k y] H fun r H'=>r= .bool (xo s k y)∧aq H H':=by
 have c1:=fun(X:Heap) (hx:X.lo≤X.next) (q:Ko H X)=>IB X hx (hS.ko q)
 have iW:=hS.lx
 have lj:=hS.tl;have ft:=hS.sl
 obtain⟨⟨wa,wc,rfl,_⟩,_⟩:=hS.st.w
 obtain⟨⟨ta,tc,rfl,_⟩,_⟩:=hS.st.t
 obtain⟨⟨fa,fc,rfl,_⟩,_⟩:=hS.st.f
 obtain⟨⟨za,zc,rfl,_⟩,_⟩:=hS.st.sl
 clear hS
 unfold df at c1
 refine aQ Tryz.f12 ?_
 simp only[Tryz.f12]
 unfold df workV
 unfold xo
 by_cases h0:ef s=0
 ·obtain⟨n1,n2,n3,n4,n5,n6,n7,n8⟩:=(iW h0).bd
  have d0:decide (ef s=0)=true:=wz h0
  have hv:gD s= .tuple #[workV (eL s) 0,.int .i64 0]:=by unfold gD;rw[wF h0]
  rw[hv]at c1
  unfold workV at c1
  unfold mA
  have he:decide (k=⟨(eL s).a,(eL s).b,(eL s).c,(eL s).d⟩)=decide (k=eL s):=rfl
  generalize eL s=N at*
  clear iW hv h0
  by_cases hk:k=N
  ·subst hk
   have dk:decide (k=k)=true:=wz rfl
   rw[dk]at he
   have dw:decide (k.a≤k.a∧k.c≤k.c∧0≤y∧y≤8*(1+k.a+k.c+(s.bj.length:Int)+s.table.length))=decide (0≤y∧y≤8*(k.a+k.c+(s.bj.length:Int)+s.table.length+1)):=decide_eq_decide.2 (by omega)
   have cE:=fun(X:Heap) (hx:X.lo≤X.next) (o w f l:Int)=>Qi X hx k y o w f l
   have cW:=fun(X:Heap) (hx:X.lo≤X.next)=>zcB X hx k y k.a k.c s.bj.length s.table.length n1 (by omega) n5 (by omega) (by omega) (by omega) (by omega) (by omega)
   unfold workV at cE cW
   repeat'(first|((with_reducible show af _ _ _ _ _);(first|refine ak H (c1 _ ah bL) ?_|refine ak H (cE _ ah _ _ _ _) ?_|refine ak H (cW _ ah) ?_);intro H2 k2 l2 n2 g2 q2;try simp(disch:=omega)only[sm,sl,sI]at l2 n2 g2 q2)|simp(disch:=omega)only[↓aa,ab,simprocAttr,sa,sI, *])
   all_goals exact cf
  ·have dk:decide (k=N)=false:=wx hk
   rw[dk]at he
   have cE:=fun(X:Heap) (hx:X.lo≤X.next) (o w f l:Int)=>Qi X hx k y o w f l
   unfold workV at cE
   repeat'(first|((with_reducible show af _ _ _ _ _);(first|refine ak H (c1 _ ah bL) ?_|refine ak H (cE _ ah _ _ _ _) ?_);intro H2 k2 l2 n2 g2 q2;try simp(disch:=omega)only[sm,sl,sI]at l2 n2 g2 q2)|simp(disch:=omega)only[↓aa,ab,simprocAttr,sa,sI, *])
   all_goals exact cf
 ·have d0:decide (ef s=0)=false:=wx h0
  have hv:gD s= .tuple #[workV ⟨0,0,0,0⟩ 0,.int .i64 4]:=by unfold gD;rw[wI h0]
  rw[hv]at c1
  unfold workV at c1
  clear iW
  repeat'(first|((with_reducible show af _ _ _ _ _);refine ak H (c1 _ ah bL) ?_;intro H2 k2 l2 n2 g2 q2;try simp(disch:=omega)only[sm,sl,sI]at l2 n2 g2 q2)|simp(disch:=omega)only[↓aa,ab,simprocAttr,sa,sI, *])
  all_goals exact cf
theorem Qk(H:Heap)(aj:H.lo≤H.next){s:St}{w t f zl:Value}(hS:Sx H s w t f zl):af E (aC 11) [df s w t f zl] H fun r H'=>r=kK s∧aq H H':=by
 have c1:=fun(X:Heap) (hx:X.lo≤X.next) (q:Ko H X)=>I5 X hx (hS.ko q)
 have iW:=hS.lx
 have lj:=hS.tl;have ft:=hS.sl
 obtain⟨⟨wa,wc,rfl,_⟩,_⟩:=hS.st.w
 obtain⟨⟨ta,tc,rfl,_⟩,_⟩:=hS.st.t
 obtain⟨⟨fa,fc,rfl,_⟩,_⟩:=hS.st.f
 obtain⟨⟨za,zc,rfl,_⟩,_⟩:=hS.st.sl
 clear hS
 unfold df at c1
 refine aQ Tryz.f11 ?_
 simp only[Tryz.f11]
 unfold df
 by_cases h0:ef s=0
 ·obtain⟨n1,n2,n3,n4,n5,n6,n7,n8⟩:=(iW h0).bd
  have hv:gD s= .tuple #[workV (eL s) 0,.int .i64 0]:=by unfold gD;rw[wF h0]
  have hm:kK s= .tuple #[.int .i64 (8*((eL s).a+(eL s).c+s.bj.length+s.table.length+1)),.int .i64 0]:=by unfold kK mA;rw[wF h0]
  rw[hv]at c1
  rw[hm]
  unfold workV at c1
  generalize eL s=N at*
  clear iW hv h0 hm
  repeat'(first|((with_reducible show af _ _ _ _ _);refine ak H (c1 _ ah bL) ?_;intro H2 k2 l2 n2 g2 q2;try simp(disch:=omega)only[sm,sl,sI]at l2 n2 g2 q2)|simp(disch:=omega)only[↓aa,ab,simprocAttr,sa,sI, *])
  all_goals exact cf
 ·have hv:gD s= .tuple #[workV ⟨0,0,0,0⟩ 0,.int .i64 4]:=by unfold gD;rw[wI h0]
  have hm:kK s= .tuple #[.int .i64 0,.int .i64 4]:=by unfold kK;rw[wI h0]
  rw[hv]at c1
  rw[hm]
  unfold workV at c1
  clear iW hv hm
  repeat'(first|((with_reducible show af _ _ _ _ _);refine ak H (c1 _ ah bL) ?_;intro H2 k2 l2 n2 g2 q2;try simp(disch:=omega)only[sm,sl,sI]at l2 n2 g2 q2)|simp(disch:=omega)only[↓aa,ab,simprocAttr,sa,sI, *])
  all_goals exact cf
end Go.AM
