/-
  Walks over letters of the functions that the law reaches; written small by a program of mine.
-/
import Derived.Test.YtjgppeeplkidpaaGreatGC2
import Derived.Test.YtjgppeeplkidpaaGreatGB3
import Derived.Test.YtjgppeeplkidpaaGreatAMc
import Derived.Test.YtjgppeeplkidpaaGreatGB0
set_option linter.unusedVariables false
set_option linter.unusedSectionVars false
namespace Go.AM
attribute [local instance] fnMaps
open Go Go.Proofs
set_option maxRecDepth 100000
set_option maxHeartbeats 1000000
set_option linter.unusedSimpArgs false
theorem zbm(H:Heap)(an:H.lo≤H.next)(v:Value)(l:List Span)(ij:SL bD 2 H v l)(hr:sr l)(hl:l.length≤100000):af E (aK 323) [v,.int .i64 l.length,aK 313] H fun r H'=>r= .tuple #[]∧aq H H':=by
 refine aV Tryz.f323 ?_
 simp only[Tryz.f323]
 simp(disch:=omega)only[↓aa,ab,simprocAttr,sa, *]
 refine bP H [0,1,2,6,7,8] (fun T1 H1 u1 k1 n1 l1 g1=>?_) aj
 try simp(disch:=omega)only[sm,sl]at n1 l1 g1
 simp only[sq,simprocAttr]at u1
 refine bL kq (fun nn T X=>∃ a:Nat,nn=l.length+1-a∧(T.get 7=some (.int .i64 a)∧T.get 8=some (.int .i64 (a+20:Nat)))∧(T.get 0=T1.get 0∧T.get 1=T1.get 1∧T.get 2=T1.get 2∧T.get 6=T1.get 6)∧Ko H1 X∧X.lo=H1.lo∧(a≤l.length)) ?_ ?_
 ·refine⟨_,0,rfl,?_,?_,Ko.refl _,rfl,by omega⟩<;>exact aJ
 rintro nn dA X1 ⟨a,rfl,m1,w1,kx1,eQ,hi⟩ Qs hQ aG ai
 have bz:=k1.trans kx1;have dZ:=kx1.ag;have ed:=kx1.objs
 by_cases hlt:a+20≤l.length
 ·repeat'(first|(apply ak<;>intro)|((with_reducible show af _ _ _ _ _);refine ao H1 (Ow _ ah v l (ij.ext bD.mono (Ko.ext aj)) hr a (a+20) (by omega) (by omega) hl) ?_;intro H2 k2 l2 n2 g2 q2;try simp(disch:=omega)only[sm,sl]at l2 n2 g2 q2)|((with_reducible show Qs _ _ _ _ _);refine ai _ _ _ _ ?_)|simp(disch:=omega)only[↓aa,ab,simprocAttr,sa, *])
  all_goals try omega
  refine hQ _ _ _ ?_ ⟨a+20,rfl,?_,?_,?_,?_,by omega⟩<;>exact aJ
 ·repeat'(first|(apply ak<;>intro)|((with_reducible show af _ _ _ _ _);refine ao H1 (Ow _ ah v l (ij.ext bD.mono (Ko.ext aj)) hr a l.length (by omega) (by omega) hl) ?_;intro H2 k2 l2 n2 g2 q2;try simp(disch:=omega)only[sm,sl]at l2 n2 g2 q2)|((with_reducible show Qs _ _ _ _ _);refine ai _ _ _ _ ?_)|simp(disch:=omega)only[↓aa,ab,simprocAttr,sa, *])
  all_goals try omega
  refine bP H [0,1,2,6] (fun T2 H2 u2 k2 n2 l2 g2=>?_) aj
  try simp(disch:=omega)only[sm,sl]at n2 l2 g2
  simp only[sq,simprocAttr]at u2
  refine bL kq (fun nn T X=>∃ k:Nat,nn=l.length-k∧(T.get 6=some (.int .i64 k))∧(T.get 0=T2.get 0∧T.get 1=T2.get 1∧T.get 2=T2.get 2)∧True∧True∧(1≤k∧k≤200000∧Ko H X∧X.lo=H.lo)) ?_ ?_
  ·refine⟨_,20,rfl,?_,?_,trivial,trivial,⟨by omega,by omega,?_,?_⟩⟩<;>exact aJ
  rintro nn vU X2 ⟨k,rfl,m2,w2,_,_,⟨hk,dL,gk,lX2⟩⟩ Qs hQ aG ai
  have Iu:=gk.ag;have gX2:=gk.objs
  by_cases jd:k<l.length
  ·repeat'(first|(apply ak<;>intro)|((with_reducible show Qs _ _ _ _ _);refine ai _ _ _ _ ?_)|simp(disch:=omega)only[↓aa,ab,simprocAttr,sa, *])
   all_goals try omega
   have Et:=hQ
   refine bP H [0,1,2,6,7,8] (fun T3 H3 u3 k3 n3 l3 g3=>?_) aj
   try simp(disch:=omega)only[sm,sl]at n3 l3 g3
   simp only[sq,simprocAttr]at u3
   refine bL kq (fun nn T X=>∃ a:Nat,nn=l.length+1-a∧(T.get 7=some (.int .i64 a)∧T.get 8=some (.int .i64 (a+2*k:Nat)))∧(T.get 0=T3.get 0∧T.get 1=T3.get 1∧T.get 2=T3.get 2∧T.get 6=T3.get 6)∧Ko H3 X∧X.lo=H3.lo∧(a≤l.length)) ?_ ?_
   ·refine⟨_,0,rfl,?_,?_,Ko.refl _,rfl,by omega⟩<;>exact aJ
   rintro nn ON X3 ⟨a,rfl,m3,w3,ot,OO,hi⟩ Qs hQ aG ai
   have EE:=k3.trans ot;have EF:=ot.ag;have OQ:=ot.objs
   by_cases ziW:a+2*k≤l.length
   ·repeat'(first|(apply ak<;>intro)|((with_reducible show af _ _ _ _ _);refine ao H3 (OJ (a+2*k) _ ah v l (ij.ext bD.mono (Ko.ext aj)) hr a (a+k) (a+2*k) (by omega) (by omega) (by omega) (by omega) hl) ?_;intro H2 k2 l2 n2 g2 q2;try simp(disch:=omega)only[sm,sl]at l2 n2 g2 q2)|((with_reducible show Qs _ _ _ _ _);refine ai _ _ _ _ ?_)|simp(disch:=omega)only[↓aa,ab,simprocAttr,sa, *])
    all_goals try omega
    refine hQ _ _ _ ?_ ⟨a+2*k,rfl,?_,?_,?_,?_,by omega⟩<;>exact aJ
   ·by_cases EG:a+k<l.length
    ·repeat'(first|(apply ak<;>intro)|((with_reducible show af _ _ _ _ _);refine ao H3 (OJ l.length _ ah v l (ij.ext bD.mono (Ko.ext aj)) hr a (a+k) l.length (by omega) (by omega) (by omega) (by omega) hl) ?_;intro H2 k2 l2 n2 g2 q2;try simp(disch:=omega)only[sm,sl]at l2 n2 g2 q2)|((with_reducible show Qs _ _ _ _ _);refine ai _ _ _ _ ?_)|simp(disch:=omega)only[↓aa,ab,simprocAttr,sa, *])
     all_goals try omega
     have hQ:=Et
     refine hQ _ _ _ ?_ ⟨k*2,rfl,?_,?_,trivial,trivial,⟨by omega,by omega,?_,?_⟩⟩<;>exact aJ
    ·repeat'(first|(apply ak<;>intro)|((with_reducible show Qs _ _ _ _ _);refine ai _ _ _ _ ?_)|simp(disch:=omega)only[↓aa,ab,simprocAttr,sa, *])
     all_goals try omega
     have hQ:=Et
     refine hQ _ _ _ ?_ ⟨k*2,rfl,?_,?_,trivial,trivial,⟨by omega,by omega,?_,?_⟩⟩<;>exact aJ
  ·repeat'(first|(apply ak<;>intro)|((with_reducible show Qs _ _ _ _ _);refine ai _ _ _ _ ?_)|simp(disch:=omega)only[↓aa,ab,simprocAttr,sa, *])
   all_goals first
    |exact xW
    |omega
theorem zbn(H:Heap)(an:H.lo≤H.next)(v:Value)(l:List Span)(ij:SL bD 2 H v l)(hr:sr l)(hl:l.length≤100000):af E (aK 312) [v,aK 313] H fun r H'=>r= .tuple #[]∧aq H H':=by
 have hc:=zbm H an v l ij hr hl
 obtain⟨ad,ca,rfl,_⟩:=ij
 refine aV Tryz.f312 ?_
 simp only[Tryz.f312]
 repeat'(first|((with_reducible show af _ _ _ _ _);refine ao H (hc) ?_;intro H2 k2 l2 n2 g2 q2;try simp(disch:=omega)only[sm,sl]at l2 n2 g2 q2)|simp(disch:=omega)only[↓aa,ab,simprocAttr,sa, *])
 exact xW
theorem BC{z b:Nat}{H:Heap}(a:Addr)(c:Nat)(h:a.spot=none)(new:List Value):appendT z b H (.slice (some a) 0 c) 0 new=some (.slice (some a) 0 c,H):=by
 obtain⟨r,o,s⟩:=a
 cases h
 simp[appendT,show Nat.ble 0 c=true from rfl]
theorem SLr.mono{α:Type}{R:Heap→List Value→α→Prop}(hR:oj R){z:Nat}{H H':Heap}{v:Value}{l:List α}(hs:aq H H')(h:SLr R z H v l):SLr R z H' v l:=⟨h.1.mono hR hs,h.2.same hs⟩
theorem SLr.row{α:Type}{R:Heap→List Value→α→Prop}{z:Nat}{H H0:Heap}(hR:oj R){r:Nat}{cs:List Value}{g:Option (Nat×Nat)}{t:Bool}{l:List α}(hr:r<H.next)(aC:H.objs.get r=some (.row cs g t))(he:cY R z H0 cs l)(hx:Ext H0 H)(hl:l.length≤9223372036854775807):SLr R z H (.slice (some ⟨r,0,none⟩) l.length l.length) l:=by
 refine⟨SL.ofRow hr aC (wy _) hl fun i x hi=>?_,fun a n c e=>?_⟩
 ·obtain⟨part,h1,h2⟩:=he.2 i x hi
  exact⟨part,h1,hR _ _ _ _ hx h2⟩
 ·simp only[waq]at e
  obtain⟨rfl,_,_⟩:=e
  exact .inr ⟨r,_,_,_,rfl,hr,aC⟩
theorem SLr.nil{α:Type}{R:Heap→List Value→α→Prop}{z:Nat}{H:Heap}:SLr R z H (.slice none 0 0) []:=
 ⟨⟨none,0,rfl,⟨wy _,wJ _⟩,fun i x h=>by simp at h⟩,fun a n c e=>by cases e;exact .inl rfl⟩
theorem OR(d:Nat)(a:Addr)(n c n' c':Nat):eqV E (d+1) 25 (.slice (some a) n c) (.slice none n' c')=some false:=kq
theorem zbo(H:Heap)(an:H.lo≤H.next)(v:Value)(l:List Span)(hv:SLr bD 2 H v l)(hl:l.length≤100000):af E (aK 75) [v] H fun r H'=>(SLr bD 2 H' r l∧je H.next r)∧aq H H':=by
 obtain⟨hs,hr⟩:=hv
 have sN:aq H (H.newRow []):=eO _
 obtain⟨a,c,cs,rfl,eJ,om⟩:=(hs.mono bD.mono sN).vJ (hr.same sN)
 have lU:(H.newRow []).objs.get H.next=some (.row [] none true):=by simp(disch:=omega)only[ay,aN,az,aF,aE,aB,aM,aO,aQ,aP,aL,aD,aH,au,sl]
 refine aV Tryz.f75 ?_
 simp only[Tryz.f75]
 cases a with
 |none=>
  have e0:l=[]:=by
   cases l with
   |nil=>rfl
   |cons x l=>
    obtain⟨a',c',e,_,h⟩:=hs
    simp only[waq]at e
    obtain⟨r,o,_,_,_,_,h0,_⟩:=h 0 x rfl
    rw[h0]at e
    cases e.1
  subst e0
  simp(disch:=omega)only[↓aa,ab,simprocAttr,sa,wcy, *]
  exact⟨⟨SLr.nil,je.nil _ _ _⟩,aA⟩
 |some a=>
  by_cases aX:l.length=0
  ·have e0:l=[]:=wac aX
   subst e0
   simp only[waA,wb2]at eJ
   have cK:=BC (z:=2) (b:=16) (H:=H.newRow []) ⟨H.next,0,none⟩ 0 rfl cs
   simp(disch:=omega)only[↓aa,ab,simprocAttr,sa,OR,cw,dW,waA, *]
   have hz:SLr bD 2 (H.newRow []) (.slice (some ⟨H.next,0,none⟩) 0 0) []:=SLr.row (l:=[]) bD.mono (by simp(disch:=omega)only[ay,aN,az,aF,aE,aB,aM,aO,aQ,aP,aL,aD,aH,au,sl];omega) lU (cY.nil _ _ (H.newRow [])) ⟨wy _,fun x cells g t hx ho=>⟨t,ho⟩⟩ (by simp)
   exact⟨hz,je.mk _ _ _ _ (wy _)⟩
  ·have cK:=vR (z:=2) (b:=16) (k:=l.length) (new:=cs) lU aX (by simp[eu,kV,cw];omega)
   simp(disch:=omega)only[↓aa,ab,simprocAttr,sa,OR,cw,dW, *]
   have g:=uk (b:=H.next) (H:=H.newRow []) (by simp(disch:=omega)only[ay,aN,az,aF,aE,aB,aM,aO,aQ,aP,aL,aD,aH,au,sl];omega) 2 cs
   exact⟨⟨SLr.row bD.mono (by rw[gH];simp(disch:=omega)only[ay,aN,az,aF,aE,aB,aM,aO,aQ,aP,aL,aD,aH,au,sl];omega) (g:=some (H.next+1,2)) (t:=true) (by rw[jj,cr (by simp(disch:=omega)only[ay,aN,az,aF,aE,aB,aM,aO,aQ,aP,aL,aD,aH,au,sl])];simp(disch:=omega)only[ay,aN,az,aF,aE,aB,aM,aO,aQ,aP,aL,aD,aH,au,sl]) om g.ext (by omega),je.mk _ _ _ _ (by omega)⟩,g.same sN (wy _)⟩
theorem zbp(H:Heap)(an:H.lo≤H.next)(v:Value)(l:List Span)(hv:SLr bD 2 H v l)(hr:sr l)(hl:l.length≤100000):af E (aK 296) [v] H fun r H'=>(SLr bD 2 H' r l∧je H.next r)∧aq H H':=by
 refine aV Tryz.f296 ?_
 simp only[Tryz.f296]
 simp(disch:=omega)only[↓aa,ab,simprocAttr,sa, *]
 refine(zbo H an v l hv hl).mono ?_
 rintro r H2 ⟨⟨cq,hf⟩,s2⟩
 have k2:=s2.ko;have l2:=s2.lo;have n2:=s2.ag
 repeat'(first|((with_reducible show af _ _ _ _ _);refine ao H2 (zbn _ ah r l (cq.1.ext bD.mono (Ko.ext aj)) hr hl) ?_;intro H2 k2 l2 n2 g2 q2;try simp(disch:=omega)only[sm,sl]at l2 n2 g2 q2)|simp(disch:=omega)only[↓aa,ab,simprocAttr,sa, *])
 exact⟨cq.mono bD.mono (Ko.same (by assumption) (by assumption)),aA⟩
def gJ:Span→List Span→List Span
 |op,[]=>if 0<op.size then[op]else[]
 |op,s::l=>if 0<op.size∧s.ae≤op.ae+op.size then gJ ⟨op.ae,(if op.ae+op.size<s.ae+s.size then s.ae+s.size else op.ae+op.size)-op.ae⟩ l else if 0<op.size then op::gJ s l else gJ s l
def zbv(op:Span):Prop:=op=⟨0,0⟩∨bt op
theorem zbw:E.fn.get 295=some Tryz.f295:=kq
theorem zaH(H:Heap)(ex:List Nat)(an:H.lo≤H.next)(bV:Nat)(v:Value)(l:List Span)(hV:H.objs.get bV=some (.row [v] none true))(lV:bV<H.next)(nV:bV∉ex)(hv:SLr bD 2 H v l)(hvx:∀ a n c,v= .slice a n c→∀ r,a=some r→r.block∉ex)(hr:sr l)(hm:∀ x∈l,bt x)(hl:l.length≤100000)(hex:∀ x:Nat,x∈ex→x<H.next)
  (y:Value) (I:List Span→Heap→Prop) (F:Heap→Prop) (H1:Heap) (sH:aq H H1) (jJ:H1.next=H.next+2) (hI:∀ rest X X',I rest X→Pd (H.next+2) X X'→I rest X') (hB:∀ rest X,I rest X→fV H ex X)
  (hy:∀ v rest X,I (v::rest) X→af E y [bh v] X fun r X'=>(r= .bool true∧I rest X'∧Yd (H.next+2) ((H.next+1)::ex) X X')∨(r= .bool false∧F X'))
  (h0:I (gJ ⟨0,0⟩ l) H1):af E (.func (.func 295) #[] #[ptr bV 0]) [y] H1 fun _ X=>I [] X∨F X:=by
 have e1:=(sH.objs bV lV).trans hV
 have ly:SLr bD 2 H1 v l:=hv.mono bD.mono sH
 have m0:isCell v=true:=by
  obtain⟨⟨a,c,rfl,_⟩,_⟩:=hv
  rfl
 have l1:=sH.lo
 refine yN kq zbw rfl rfl ?_
 simp only[Tryz.f295]
 simp(disch:=omega)only[↓aa,ab,simprocAttr,sa,wL,wat, *]
 refine(zbp _ ah v l (ly.mono bD.mono (eO _)) hr hl).mono ?_
 rintro r H3 ⟨⟨hs,hf⟩,s3⟩
 have k3:Ko H1 H3:=(show Ko H1 (H1.newRow [Value.int .i64 0,Value.int .i64 0])from aj).call s3
 have l3:=s3.lo;have n3:=s3.ag
 have o3:=s3.objs (H.next+2) (by simp(disch:=omega)only[ay,aN,az,aF,aE,aB,aM,aO,aQ,aP,aL,aD,aH,au,sl];omega)
 have z1:(H.next+2==H1.next)=true:=by rw[jJ];exact wbq _
 simp(disch:=omega)only[sm,sl]at l3 n3 o3 hf
 rw[z1]at o3
 clear s3
 obtain⟨⟨ad,ca,rfl,⟨_,qL⟩,bs⟩, -⟩:=hs
 simp(disch:=omega)only[↓aa,ab,simprocAttr,sa, *]
 have i3:=hI _ _ _ h0 (aq.pd (aA:aq H1 H3) (by omega))
 refine bL kq (fun nn T X=>∃ (i:Nat) (op:Span),nn=l.length-i∧i≤l.length∧T.get 9=some (.int .i64 i)∧T.get 0=some y∧T.get 3=some (ptr (H.next+2) 0)∧T.get 7=some (.slice ad l.length ca)∧T.get 8=some (.int .i64 l.length)∧
  X.objs.get (H.next+2)=some (.row [.int .i64 op.ae,.int .i64 op.size] none true)∧zbv op∧SL bD 2 X (.slice ad l.length ca) l∧H.next+2<X.next∧I (gJ op (l.drop i)) X) ⟨_,0,⟨0,0⟩,rfl,wJ _,by simp(disch:=omega)only[↓aa,ab,simprocAttr,sa,wcg,wL,wat],by simp(disch:=omega)only[↓aa,ab,simprocAttr,sa,wL,wat],by simp(disch:=omega)only[↓aa,ab,simprocAttr,sa,wL,wat],by simp(disch:=omega)only[↓aa,ab,simprocAttr,sa,wL,wat],by simp(disch:=omega)only[↓aa,ab,simprocAttr,sa,wL,wat],o3,.inl rfl,⟨ad,ca,rfl,⟨by assumption,qL⟩,bs⟩,by omega,i3⟩ ?_
 rintro nn T X ⟨i,op,rfl,hi,t9,t0,t3,t7,t8,fo,bW,fH,jH,ii⟩ Qs hQ aG ai
 have rb:=hB _ _ ii
 have lX:=rb.lo;have nX:=rb.ag
 have no:H.next+2∉(H.next+1)::ex:=fun hh=>by
  rcases wad.1 hh with hh|hh
  ·omega
  ·have:=hex _ hh;omega
 have OX:∀ x:Nat,x∈(H.next+1)::ex→x<H.next+2:=fun x hh=>by
  rcases wad.1 hh with rfl|hh
  ·omega
  ·have:=hex _ hh;omega
 by_cases hlt:i<l.length
 ·obtain⟨rr,o,cells,gg,tt,part,rfl,gS,aC,aR,rfl⟩:=(by obtain⟨_,_,e,_,h⟩:=fH;cases e;exact h i l[i] (by simp):∃ r o cells g t part,ad=some ⟨r,o,none⟩∧r<X.next∧X.objs.get r=some (.row cells g t)∧cut cells (o+i*2) 2=some part∧bD X part l[i])
  have uh:=hm l[i] (by simp)
  have zbx:=uh
  unfold bt at zbx
  have a1:=bn hlt
  rw[wX hlt]at ii
  have vh:∀ x:Nat,x∈[H.next+2]→x<H.next+3:=fun x hx=>by rw[waG]at hx;omega
  have dt:op.stop=op.ae+op.size:=rfl
  have zaK:l[i].stop=l[i].ae+l[i].size:=rfl
  by_cases fj:0<op.size
  ·have BE:bt op:=bW.resolve_left fun e=>by rw[e]at fj;exact absurd fj (by decide)
   have zby:=BE
   unfold bt at zby
   by_cases ck:l[i].ae≤op.ae+op.size
   ·repeat'(first|(apply ak<;>intro)|refine aw 7 [Fx,Fx,Fx,Fx,Fx,Fx,Fx,Tx,Fx,Fx,Fx] ?_|refine aw 8 [Fx,Tx,Fx,Tx,Fx,Fx,Fx,Fx,Fx,Fx] ?_|((with_reducible show af _ _ _ _ _);(first|refine ao X (qN _ ah l[i]) ?_|refine ao X (qO _ ah op (by assumption)) ?_|refine ao X (qO _ ah l[i] (by assumption)) ?_);intro H2 k2 l2 n2 g2 q2;try simp(disch:=omega)only[sm,sl]at l2 n2 g2 q2)|((with_reducible show Qs _ _ _ _ _);refine ai _ _ _ _ ?_)|simp(disch:=omega)only[↓aa,ab,simprocAttr,sa,builtin_max, *])
    all_goals try omega
    rw[gJ,wF ⟨fj,ck⟩]at ii
    refine hQ _ _ _ ?_ ⟨i+1,⟨op.ae,(if op.ae+op.size<l[i].ae+l[i].size then l[i].ae+l[i].size else op.ae+op.size)-op.ae⟩,rfl,by omega,?_,?_,?_,?_,?_,?_,.inr (by unfold bt;simp only;split<;>omega),?_,?_,?_⟩
    ·omega
    iterate 5 exact aJ
    ·simp(disch:=omega)only[ay,aN,az,aF,aE,aB,aM,aO,aQ,aP,aL,aD,aH,au,sl]
    ·refine fH.yd (fun _ _ _ _ h=>h) (hf.le (by omega)) vh (Yd.setRow (aq.yd ?_ (by omega)) (waG.2 rfl) _);exact aA
    ·simp(disch:=omega)only[ay,aN,az,aF,aE,aB,aM,aO,aQ,aP,aL,aD,aH,au,sl];omega
    ·refine hI _ _ _ ii (Pd.setRow (aq.pd ?_ (by omega)) (by omega) ⟨[.int .i64 op.ae,.int .i64 op.size],true,?_⟩ _);exact aA;(simp(disch:=omega)only[ay,aN,az,aF,aE,aB,aM,aO,aQ,aP,aL,aD,aH,au,sl, *])
   ·repeat'(first|(apply ak<;>intro)|refine aw 7 [Fx,Fx,Fx,Fx,Fx,Fx,Fx,Tx,Fx,Fx,Fx] ?_|((with_reducible show af _ _ _ _ _);(first|refine ao X (qN _ ah l[i]) ?_|refine ao X (qO _ ah op (by assumption)) ?_);intro H2 k2 l2 n2 g2 q2;try simp(disch:=omega)only[sm,sl]at l2 n2 g2 q2)|((with_reducible show Qs _ _ _ _ _);refine ai _ _ _ _ ?_)|simp(disch:=omega)only[↓aa,ab,simprocAttr,sa, *])
    all_goals try omega
    rw[gJ,wI (by omega),wF fj]at ii
    refine uu hI hy ii aA nX ?_ ?_
    ·intro X' h1 h2
     have f1:=h2.alone (H.next+2) [.int .i64 op.ae,.int .i64 op.size] true (by simp(disch:=omega)only[ay,aN,az,aF,aE,aB,aM,aO,aQ,aP,aL,aD,aH,au,sl];omega) no (by simp(disch:=omega)only[ay,aN,az,aF,aE,aB,aM,aO,aQ,aP,aL,aD,aH,au,sl, *])
     have f2:=h2.alone X.next [.int .i64 l[i].ae,.int .i64 l[i].size] true (by simp(disch:=omega)only[ay,aN,az,aF,aE,aB,aM,aO,aQ,aP,aL,aD,aH,au,sl];omega) (fun hh=>by have:=OX _ hh;omega) (by simp(disch:=omega)only[ay,aN,az,aF,aE,aB,aM,aO,aQ,aP,aL,aD,aH,au,sl, *])
     have zbz:=(fH.mono bD.mono (aA:aq X (H2.bU H.lo))).yd (fun _ _ _ _ h=>h) (hf.le (by omega)) OX h2
     have lY:=h2.lo;have nY:=h2.ag
     simp(disch:=omega)only[sm,sl]at lY nY
     clear h2
     simp(disch:=omega)only[↓aa,ab,simprocAttr,sa, *]
     refine hQ _ _ _ ?_ ⟨i+1,l[i],rfl,by omega,?_,?_,?_,?_,?_,?_,.inr uh,?_,?_,?_⟩
     ·omega
     iterate 5 exact aJ
     ·simp(disch:=omega)only[ay,aN,az,aF,aE,aB,aM,aO,aQ,aP,aL,aD,aH,au,sl]
     ·refine zbz.yd (fun _ _ _ _ h=>h) (hf.le (by omega)) vh (Yd.setRow (aq.yd ?_ (by omega)) (waG.2 rfl) _);exact aA
     ·simp(disch:=omega)only[ay,aN,az,aF,aE,aB,aM,aO,aQ,aP,aL,aD,aH,au,sl];omega
     ·refine hI _ _ _ h1 (Pd.setRow (aq.pd ?_ (by omega)) (by omega) ⟨[.int .i64 op.ae,.int .i64 op.size],true,?_⟩ _);exact aA;(simp(disch:=omega)only[ay,aN,az,aF,aE,aB,aM,aO,aQ,aP,aL,aD,aH,au,sl, *])
    ·intro X' h1
     repeat'(first|((with_reducible show Qs _ _ _ _ _);refine aG _ _ _ ?_)|simp(disch:=omega)only[↓aa,ab,simprocAttr,sa, *])
     exact .inr trivial
  ·repeat'(first|(apply ak<;>intro)|refine aw 7 [Fx,Fx,Fx,Fx,Fx,Fx,Fx,Tx,Fx,Fx,Fx] ?_|((with_reducible show af _ _ _ _ _);refine ao X (qN _ ah l[i]) ?_;intro H2 k2 l2 n2 g2 q2;try simp(disch:=omega)only[sm,sl]at l2 n2 g2 q2)|((with_reducible show Qs _ _ _ _ _);refine ai _ _ _ _ ?_)|simp(disch:=omega)only[↓aa,ab,simprocAttr,sa, *])
   all_goals try omega
   rw[gJ,wI (by omega),wI fj]at ii
   refine hQ _ _ _ ?_ ⟨i+1,l[i],rfl,by omega,?_,?_,?_,?_,?_,?_,.inr uh,?_,?_,?_⟩
   ·omega
   iterate 5 exact aJ
   ·simp(disch:=omega)only[ay,aN,az,aF,aE,aB,aM,aO,aQ,aP,aL,aD,aH,au,sl]
   ·refine fH.yd (fun _ _ _ _ h=>h) (hf.le (by omega)) vh (Yd.setRow (aq.yd ?_ (by omega)) (waG.2 rfl) _);exact aA
   ·simp(disch:=omega)only[ay,aN,az,aF,aE,aB,aM,aO,aQ,aP,aL,aD,aH,au,sl];omega
   ·refine hI _ _ _ ii (Pd.setRow (aq.pd ?_ (by omega)) (by omega) ⟨[.int .i64 op.ae,.int .i64 op.size],true,?_⟩ _);exact aA;(simp(disch:=omega)only[ay,aN,az,aF,aE,aB,aM,aO,aQ,aP,aL,aD,aH,au,sl, *])
 ·repeat'(first|(apply ak<;>intro)|((with_reducible show Qs _ _ _ _ _);refine ai _ _ _ _ ?_)|simp(disch:=omega)only[↓aa,ab,simprocAttr,sa, *])
  all_goals try omega
  ·have e0:i=l.length:=by omega
   rw[e0,wbF,gJ,wF (by omega)]at ii
   refine uu hI hy ii (aq.refl _) nX ?_ ?_
   ·intro X' h1 h2
    simp(disch:=omega)only[↓aa,ab,simprocAttr,sa, *]
    exact .inl trivial
   ·intro X' h1
    simp(disch:=omega)only[↓aa,ab,simprocAttr,sa, *]
    exact .inr trivial
  ·have e0:i=l.length:=by omega
   rw[e0,wbF,gJ,wI (by omega)]at ii
   exact .inl ii
theorem OV(H:Heap)(an:H.lo≤H.next)(a:Nat)(s:Span)(top:Int):af E (aK 286) [ptr a 0,bh s,.int .i64 top] H fun r H'=>r= .func (.func 309) #[] #[ptr (H.next+1) 0,ptr (H.next+1+1) 0,ptr H.next 0]∧H'.objs.get H.next=some (.row [ptr a 0] none true)∧H'.objs.get (H.next+1)=some (.row [.int .i64 s.ae,.int .i64 s.size] none true)∧H'.objs.get (H.next+1+1)=some (.row [.int .i64 top] none true)∧H'.next=H.next+3∧aq H H':=by
 refine aV Tryz.f286 ?_
 simp only[Tryz.f286]
 simp only[bh]
 simp(disch:=omega)only[↓aa,ab,simprocAttr,sa,Eg,Hz,Ei,Eh, *]
 exact⟨rfl,aA⟩
def y0:List mf→Prop
 |[]=>False
 |[s]=>s.last=true
 |s::l=>s.last=false∧y0 l
def kC:List mf→Int×Int
 |[]=>(0,0)
 |[s]=>(s.ae,s.e)
 |_::l=>kC l
theorem Iw(ws:List Nat)(top:Int):∀ n p,y0 (dF ws top n p)
 |0,p=>rfl
 |n+1,p=>by
  rw[dF]
  split
  ·split
   ·have:=Iw ws top n (p+ct (aU ws p))
    revert this
    generalize dF ws top n (p+ct (aU ws p))=l
    intro h
    cases l with
    |nil=>exact h.elim
    |cons x l=>exact⟨rfl,h⟩
   ·rfl
  ·rfl
theorem zbr{v:mf}{rest:List mf}(h:y0 (v::rest))(hl:v.last=true):rest=[]:=by
 cases rest with
 |nil=>rfl
 |cons x l=>have:=h.1;rw[hl]at this;cases this
theorem zbs{v:mf}{rest:List mf}(h:y0 (v::rest))(hl:v.last=false):y0 rest∧kC (v::rest)=kC rest:=by
 cases rest with
 |nil=>have h:v.last=true:=h;rw[hl]at h;cases h
 |cons x l=>exact⟨h.2,rfl⟩
theorem fV.ko{H H3 X:Heap}{ex:List Nat}(b:fV H3 ex X)(k:Ko H H3)(hex:∀ x:Nat,x∈ex→H.next≤x):Ko H X:=by
 have h1:=k.ag;have h2:=b.ag
 exact⟨by omega,fun x hx=>(b.objs x (by omega) fun hh=>by have:=hex x hh;omega).trans (k.objs x hx),fun x hx=>(b.grps x (by omega)).trans (k.grps x hx)⟩
theorem Bv{H X:Heap}{gr:Tr (List Nat)}{nx k:Nat}(h:Ko H X)(hk:H.next≤k)(hg:gr=X.grps)(hn:nx=X.next):aq H ⟨X.objs.del k,gr,nx,H.lo⟩:=by
 subst hg hn
 exact⟨rfl,h.ag,fun x hx=>(ui _ _ _ (by omega)).trans (h.objs x hx),h.grps⟩
theorem Bu{H X:Heap}{gr:Tr (List Nat)}{nx:Nat}(k:Ko H X)(hg:gr=X.grps)(hn:nx=X.next):aq H ⟨X.objs,gr,nx,H.lo⟩:=by
 subst hg hn
 exact⟨rfl,k.ag,k.objs,k.grps⟩
def mg(ws:List Nat)(s:Span)(top:Int):Int×Int:=if bt s∧s.ae≤top∧top≤s.stop then kC (dF ws top (top-s.ae).toNat s.ae)else(0,1)
theorem zbt:E.fn.get 285=some Tryz.f285:=kq
theorem OW(H:Heap)(an:H.lo≤H.next){a rw g:Nat}{ws:List Nat}(lD:Ar H a rw g ws)(s:Span)(top:Int):af E (aK 285) [ptr a 0,bh s,.int .i64 top] H fun r H'=>r= .tuple #[.int .i64 (mg ws s top).1,.int .i64 (mg ws s top).2]∧aq H H':=by
 refine D7 kq zbt rfl rfl ?_
 simp only[Tryz.f285,bh]
 by_cases hm:bt s
 case neg=>
  have e:mg ws s top=(0,1):=wI fun h=>hm h.1
  repeat'(first|((with_reducible show af _ _ _ _ _);refine ao H (qN _ ah s) ?_;intro H2 k2 l2 n2 g2 q2;try simp(disch:=omega)only[sm,sl]at l2 n2 g2 q2)|simp(disch:=omega)only[↓aa,ab,simprocAttr,sa,wL,waw, *])
  refine⟨_,rfl,?_⟩
  simp(disch:=omega)only[↓aa,ab,simprocAttr,sa, *]
  exact Bu aj rfl rfl
 have eC:=hm
 unfold bt at eC
 by_cases ht:s.ae≤top∧top≤s.ae+s.size
 case neg=>
  have e:mg ws s top=(0,1):=wI fun h=>ht h.2
  by_cases Bd:top<s.ae
  ·repeat'(first|((with_reducible show af _ _ _ _ _);refine ao H (qN _ ah s) ?_;intro H2 k2 l2 n2 g2 q2;try simp(disch:=omega)only[sm,sl]at l2 n2 g2 q2)|simp(disch:=omega)only[↓aa,ab,simprocAttr,sa,wL,waw, *])
   all_goals try omega
   refine⟨_,rfl,?_⟩
   simp(disch:=omega)only[↓aa,ab,simprocAttr,sa, *]
   exact Bu aj rfl rfl
  ·have ht2:s.ae+s.size<top:=by omega
   repeat'(first|((with_reducible show af _ _ _ _ _);refine ao H (qN _ ah s) ?_;intro H2 k2 l2 n2 g2 q2;try simp(disch:=omega)only[sm,sl]at l2 n2 g2 q2)|simp(disch:=omega)only[↓aa,ab,simprocAttr,sa,wL,waw, *])
   all_goals try omega
   refine⟨_,rfl,?_⟩
   simp(disch:=omega)only[↓aa,ab,simprocAttr,sa, *]
   exact Bu aj rfl rfl
 have e:mg ws s top=kC (dF ws top (top-s.ae).toNat s.ae):=wF ⟨hm,ht⟩
 repeat'(first|(apply ak<;>intro)|apply bw|((with_reducible show af _ _ _ _ _);refine ao H (qN _ ah s) ?_;intro H2 k2 l2 n2 g2 q2;try simp(disch:=omega)only[sm,sl]at l2 n2 g2 q2)|simp(disch:=omega)only[↓aa,ab,simprocAttr,sa,wL,waw, *])
 all_goals try omega
 refine(OV H2 (by omega) a s top).mono ?_
 rintro r H3 ⟨rfl,b1,b2,b3,n3,s3⟩
 have l3:=s3.lo;have k3:=k2.call s3
 have c1:H3.objs.get (H.next+1)=some (.row [.int .i64 0] none true):=by rw[s3.objs _ (by omega),g2 _ (by omega)];simp(disch:=omega)only[ay,aN,az,aF,aE,aB,aM,aO,aQ,aP,aL,aD,aH,au,sl]
 have c2:H3.objs.get (H.next+1+1)=some (.row [.int .i64 0] none true):=by rw[s3.objs _ (by omega),g2 _ (by omega)];simp(disch:=omega)only[ay,aN,az,aF,aE,aB,aM,aO,aQ,aP,aL,aD,aH,au,sl]
 have uv:=lD.same k3
 refine Du (enc:=BD) (xs:=dF ws top (top-s.ae).toNat s.ae) (g:=309) (first:= #[]) (cap:= #[ptr (H2.next+1) 0,ptr (H2.next+1+1) 0,ptr H2.next 0])
  (J:=fun rest X=>y0 rest∧kC rest=mg ws s top∧X.objs.get (H.next+1)=some (.row [.int .i64 0] none true)∧X.objs.get (H.next+1+1)=some (.row [.int .i64 0] none true))
  (R:=fun X=>X.objs.get (H.next+1)=some (.row [.int .i64 (mg ws s top).1] none true)∧X.objs.get (H.next+1+1)=some (.row [.int .i64 (mg ws s top).2] none true))
  (ex:=[H.next+1,H.next+1+1]) ?_ (by omega) ?_ ?_ (fun _ _=>by kernel_rfl) (fun _ _ _=>by kernel_rfl) ?_ ?_ ?_ ?_ ?_ ?_ ?_ ?_
 ·intro x hx;simp only[wad,wbb,wck]at hx;omega
 ·simp(disch:=omega)only[↓aa,ab,simprocAttr]
 ·exact wap rfl
 ·rintro rest X X' ⟨h1,h2,h3,h4⟩ rb pd
  exact⟨h1,h2,(pd.objs _ (by omega)).trans h3,(pd.objs _ (by omega)).trans h4⟩
 ·rintro rest X X' ⟨h1,h2,h3,h4⟩ of
  exact⟨h1,h2,(of.objs _ (by omega)).trans h3,(of.objs _ (by omega)).trans h4⟩
 ·rintro X X' ⟨h3,h4⟩ of
  exact⟨(of.objs _ (by omega)).trans h3,(of.objs _ (by omega)).trans h4⟩
 ·intro X rb sX
  exact⟨Iw _ _ _ _,e.symm,(sX.objs _ (by omega)).trans c1,(sX.objs _ (by omega)).trans c2⟩
 ·intro y I F H1 sH jJ hI hB hy h0
  have hx:∀ x:Nat,x=H.next+1∨x=H.next+1+1↔x∈[H.next+1,H.next+1+1]:=fun x=>by simp
  refine OU H3 [H.next+1,H.next+1+1] (by omega) (H2.next+1) (H2.next+1+1) H2.next a rw g s top ws b2 b3 b1 uv (by omega) (by omega) (by omega) ?_ ?_ ?_ ?_ ?_ ?_ ⟨by omega,by omega⟩ ⟨by omega,by omega⟩ y I F H1 sH jJ hI hB hy h0
  iterate 5 (rw[←hx];have:=lD.la;have:=lD.lw;omega)
  intro x hh
  rw[←hx]at hh
  omega
 ·rintro v rest X ⟨h1,h2,h3,h4⟩ rb
  have lX:=rb.lo;have nX:=rb.ag
  simp only[BD]
  simp(disch:=omega)only[↓aa,ab,simprocAttr,sa, *]
  refine⟨aA,fun X2 of=>?_⟩
  have o1:=of.next;have o2:=of.lo
  have o3:=of.objs X.next (by omega)
  have o4:=of.objs (H.next+1) (by omega)
  have o5:=of.objs (H.next+1+1) (by omega)
  simp(disch:=omega)only[sm,sl]at o1 o2 o3 o4 o5
  clear of
  cases hl:v.last with
  |true=>
   repeat'(first|refine aw 6 [Fx,Fx,Fx,Fx,(false,[3],[]),Fx] ?_|simp(disch:=omega)only[↓aa,ab,simprocAttr,sa, *])
   obtain rfl:=zbr h1 hl
   rw[←e,←h2]
   exact⟨((Yd.refl _ _ X2).setRow (by simp) _).setRow (by simp) _,.inr ⟨rfl,rfl⟩⟩
  |false=>
   simp(disch:=omega)only[↓aa,ab,simprocAttr,sa, *]
   obtain⟨w1,w2⟩:=zbs h1 hl
   exact⟨Yd.refl _ _ X2,.inl ⟨w1,by rw[←w2,h2,e]⟩⟩
 ·rintro X ⟨h1,_⟩
  exact h1.elim
 ·rintro X ⟨h3,h4⟩ rb
  have lX:=rb.lo;have nX:=rb.ag
  have dX:=rb.vq
  refine⟨_,Be dX (by omega),?_⟩
  have d1:=ui X.objs (H2.next+3) (H.next+1) (by omega)
  have d2:=ui X.objs (H2.next+3) (H.next+1+1) (by omega)
  simp(disch:=omega)only[↓aa,ab,simprocAttr,sa, *]
  exact Bv (rb.ko k3 (by intro x hx;simp only[wad,wbb,wck]at hx;omega)) (by omega) rfl rfl
def gu(l:List mf):List Int:=(l.filter (!·.last)).map (·.ae)
def cx(n:Int):Value:= .int .i64 n
theorem Iy{ws:List Nat}{top:Int}:∀ (n:Nat) (p:Int),0≤p→(gu (dF ws top n p)).length≤ws.length-p.toNat
 |0,p,_=>wJ _
 |n+1,p,h=>by
  rw[dF]
  split
  ·split
   ·rename_i h2
    have h3:=(kx (qU h2).1).2.1
    have h4:=vX (qU h2).1
    have:=Iy (ws:=ws) (top:=top) n (p+ct (aU ws p)) (by omega)
    simp only[gu,wce,wb0,wah,wbk,wY]at this⊢
    omega
   ·exact wJ _
  ·exact wJ _
def iJ(ws:List Nat)(s:Span)(top:Int):List Int×Int:=if(mg ws s top).2=0 then(gu (dF ws top (top-s.ae).toNat s.ae),0)else([],(mg ws s top).2)
theorem b8.pd{B b z n:Nat}{v:Value}{cs:List Value}{f:Option (Nat×Nat)}{X X':Heap}(h:b8 b z X v n cs f)(p:Pd B X X'):b8 b z X' v n cs f:=by
 refine h.cJ p.ag fun r g e=>?_
 subst e
 obtain⟨_,_,_,h3,_,h5,aT,h6,h7⟩:=h
 exact⟨(p.bK r _ _ _ h3 h6).trans h6.symm,p.grps g h5⟩
theorem b8.Ev{b z n l:Nat}{v:Value}{cs:List Value}{f:Option (Nat×Nat)}{X X':Heap}(h:b8 b z X v n cs f)(p:py l X X')(hl:l<b):b8 b z X' v n cs f:=by
 refine h.cJ (by rw[p.next];exact wy _) fun r g e=>?_
 subst e
 obtain⟨_,_,h2,h3,_,h5,aT,h6,h7⟩:=h
 exact⟨p.objs r (by omega),p.grps g⟩
theorem EH(H:Heap)(l:List Int):cY (RInt .i64) 1 H (l.map cx) l:=by
 refine⟨by simp,fun i x hx=>⟨[cx x],?_,rfl⟩⟩
 have hi:=(wD.1 hx).1
 rw[du,wF (by rw[wO];omega),waY,List.take_one,List.head?_drop,war,hx]
 rfl
theorem b8.qX{b k lo:Nat}{X:Heap}{v:Value}{l:List Int}{f:Option (Nat×Nat)}{gr:Tr (List Nat)}(h:b8 b 1 X v l.length (l.map cx) f)(hk:k<b)(hl:l.length≤9223372036854775807):SLr (RInt .i64) 1 ⟨X.objs.del k,gr,X.next,lo⟩ v l:=by
 obtain⟨_,h⟩:=h
 match f,h with
 |none,⟨h1,h2⟩=>
  have:l=[]:=wac h2
  subst h1 this
  exact SLr.nil
 |some (r,g),⟨h1,h2,h3,_,_,aT,h6,_⟩=>
  subst h1
  exact SLr.row (fun _ _ _ _ _ h=>h) h3 ((ui _ _ _ (by omega)).trans h6) (EH _ l) ⟨wy _,fun x cells g t _ ho=>⟨t,ho⟩⟩ hl
theorem b8.fresh{b z n:Nat}{X:Heap}{v:Value}{cs:List Value}{f:Option (Nat×Nat)}(h:b8 b z X v n cs f):je b v:=by
 obtain⟨_,h⟩:=h
 match f,h with
 |none,⟨h1,_⟩=>subst h1;exact je.nil _ _ _
 |some (r,g),⟨h1,h2,_⟩=>subst h1;exact je.mk _ _ _ _ h2
theorem zbu:E.fn.get 239=some Tryz.f239:=kq
theorem za2(H:Heap)(an:H.lo≤H.next){a rw g:Nat}{ws:List Nat}(lD:Ar H a rw g ws)(s:Span)(top:Int):af E (aK 239) [ptr a 0,bh s,.int .i64 top] H fun r H'=>∃ v,r= .tuple #[v,.int .i64 (iJ ws s top).2]∧(SLr (RInt .i64) 1 H' v (iJ ws s top).1∧je H.next v)∧aq H H':=by
 refine D7 kq zbu rfl rfl ?_
 simp only[Tryz.f239,bh]
 by_cases he:(mg ws s top).2=0
 case neg=>
  have e:iJ ws s top=([],(mg ws s top).2):=wI he
  repeat'(first|((with_reducible show af _ _ _ _ _);refine ao H (OW _ ah (lD.same aj) s top) ?_;intro H2 k2 l2 n2 g2 q2;try simp(disch:=omega)only[sm,sl]at l2 n2 g2 q2)|simp(disch:=omega)only[↓aa,ab,simprocAttr,sa,wL,waw, *])
  all_goals try contradiction
  refine⟨_,rfl,?_⟩
  repeat'(first|refine ak (fun _=>?_) (fun _=>?_)|apply bw|refine cO (fun _=>?_) (fun _=>?_)|simp(disch:=omega)only[↓aa,ab,simprocAttr,sa, *])
  exact⟨_,rfl,⟨SLr.nil,je.nil _ _ _⟩,Bu aj rfl rfl⟩
 repeat'(first|((with_reducible show af _ _ _ _ _);refine ao H (OW _ ah (lD.same aj) s top) ?_;intro H2 k2 l2 n2 g2 q2;try simp(disch:=omega)only[sm,sl]at l2 n2 g2 q2)|simp(disch:=omega)only[↓aa,ab,simprocAttr,sa,wL,waw, *])
 have hmt:bt s∧s.ae≤top∧top≤s.stop:=by
  refine wbK fun hn=>?_
  have:mg ws s top=(0,1):=wI hn
  rw[this]at he
  cases he
 obtain⟨hm,ht⟩:=hmt
 unfold bt at hm
 unfold Span.stop at ht
 have e:iJ ws s top=(gu (dF ws top (top-s.ae).toNat s.ae),0):=wF he
 have bj:=Iy (ws:=ws) (top:=top) (top-s.ae).toNat s.ae (by omega)
 have fS:=lD.len
 generalize dt:dF ws top (top-s.ae).toNat s.ae=zs at e bj
 refine(OV _ ah a s top).mono ?_
 rintro r H3 ⟨rfl,b1,b2,b3,n3,s3⟩
 have k3:Ko H H3:=(show Ko H (H2.newRow [Value.slice none 0 0])from aj).call s3
 have l3:=s3.lo
 have c0:=s3.objs H2.next (by simp(disch:=omega)only[ay,aN,az,aF,aE,aB,aM,aO,aQ,aP,aL,aD,aH,au,sl];omega)
 simp(disch:=omega)only[sm,sl]at b1 b2 b3 n3 l3 c0
 clear s3
 have uv:=lD.same k3
 refine Du (enc:=BD) (xs:=zs) (g:=309) (first:= #[]) (cap:= #[ptr (H2.next+1+1) 0,ptr (H2.next+1+1+1) 0,ptr (H2.next+1) 0])
  (J:=fun rest X=>∃ v f done,X.objs.get H2.next=some (.row [v] none true)∧b8 (H3.next+2) 1 X v done.length (done.map cx) f∧done++gu rest=gu zs)
  (R:=fun X=>False) (ex:=[H2.next]) ?_ (by omega) ?_ ?_ (fun _ _=>by kernel_rfl) (fun _ _ _=>by kernel_rfl) ?_ ?_ ?_ ?_ ?_ ?_ ?_ ?_
 ·intro x hx;simp only[wad,wbb,wck]at hx;omega
 ·simp(disch:=omega)only[↓aa,ab,simprocAttr,n3]
 ·exact wap rfl
 ·rintro rest X X' ⟨v,f,done,h1,h2,h3⟩ rb pd
  exact⟨v,f,done,(pd.objs _ (by omega)).trans h1,h2.pd pd,h3⟩
 ·rintro rest X X' ⟨v,f,done,h1,h2,h3⟩ of
  exact⟨v,f,done,(of.objs _ (by omega)).trans h1,h2.Ev of (by omega),h3⟩
 ·intro X X' h;exact h.elim
 ·intro X rb sX
  exact⟨_,none,[],(sX.objs _ (by omega)).trans c0,b8.nil _ _ _,rfl⟩
 ·intro y I F H1 sH jJ hI hB hy h0
  have hx:∀ x:Nat,x=H2.next↔x∈[H2.next]:=fun x=>by simp
  refine OU H3 [H2.next] (by omega) (H2.next+1+1) (H2.next+1+1+1) (H2.next+1) a rw g s top ws b2 b3 b1 uv (by omega) (by omega) (by omega) ?_ ?_ ?_ ?_ ?_ ?_ ⟨by omega,by omega⟩ ⟨by omega,by omega⟩ y I F H1 sH jJ hI hB hy (by rw[dt];exact h0)
  iterate 5 (rw[←hx];have:=lD.la;have:=lD.lw;omega)
  intro x hh
  rw[←hx]at hh
  omega
 ·rintro v rest X ⟨sv,f,done,h1,h2,h3⟩ rb
  have lX:=rb.lo;have nX:=rb.ag
  simp only[BD]
  simp(disch:=omega)only[↓aa,ab,simprocAttr,sa, *]
  refine⟨aA,fun X2 of=>?_⟩
  have o1:=of.next;have o2:=of.lo
  have o3:=of.objs X.next (by omega)
  have o4:=of.objs H2.next (by omega)
  have h2:=(h2.same (aA:aq X _)).Ev of (by omega)
  simp(disch:=omega)only[sm,sl]at o1 o2 o3 o4
  clear of
  cases hl:v.last with
  |true=>
   simp(disch:=omega)only[↓aa,ab,simprocAttr,sa, *]
   rw[n3]at h2
   exact⟨Yd.refl _ _ X2,.inl ⟨sv,f,done,rfl,h2,by rw[←h3];simp[gu,hl]⟩⟩
  |false=>
   have h4:gu (v::rest)=v.ae::gu rest:=by simp[gu,hl]
   rw[h4]at h3
   have h5:=congrArg List.length h3
   simp only[wN,wY]at h5
   obtain⟨H9,f9,cK,pM,kz,sw,_⟩:=qK (bytes:=8) (k:=1) (new:=[cx v.ae]) (h2.same (eO [cx v.ae])) (by simp(disch:=omega)only[ay,aN,az,aF,aE,aB,aM,aO,aQ,aP,aL,aD,aH,au,sl];omega) (by simp(disch:=omega)only[ay,aN,az,aF,aE,aB,aM,aO,aQ,aP,aL,aD,aH,au,sl];omega) (by omega) rfl rfl (by simp[eu,kV,cw];omega)
   have y9:Yd (H3.next+2) [H2.next] X2 H9:=((eO [cx v.ae]).yd (by omega)).grown kz (wy _)
   have d9:=kz.alone H2.next [sv] true (by simp(disch:=omega)only[ay,aN,az,aF,aE,aB,aM,aO,aQ,aP,aL,aD,aH,au,sl];omega) (by simp(disch:=omega)only[ay,aN,az,aF,aE,aB,aM,aO,aQ,aP,aL,aD,aH,au,sl,o4,h1])
   have l9:=kz.lo
   simp(disch:=omega)only[sm,sl]at cK sw l9
   clear kz
   simp only[cx]at cK
   simp(disch:=omega)only[↓aa,ab,simprocAttr,sa,cw,iG,dW,wL,wat,wY,waA,waV,waZ, *]
   rw[n3]at y9
   refine⟨y9.setRow (by simp) _,.inl ⟨_,f9,done++[v.ae],rfl,?_,by rw[waP];exact h3⟩⟩
   rw[←n3]
   have e9:(done++[v.ae]).map cx=done.map cx++[cx v.ae]:=by simp
   have e8:(done++[v.ae]).length=done.length+1:=by simp
   rw[e9,e8]
   simp only[az,o1]at pM
   refine pM.cJ (by simp(disch:=omega)only[ay,aN,az,aF,aE,aB,aM,aO,aQ,aP,aL,aD,aH,au,sl];omega) fun r g e=>?_
   subst e
   obtain⟨_,_,q2,_⟩:=pM
   exact⟨by rw[ay,au (by omega)];rfl,rfl⟩
 ·rintro X ⟨sv,f,done,h1,h2,h3⟩ rb
  have lX:=rb.lo;have nX:=rb.ag
  have dX:=rb.vq
  rw[n3]at dX
  simp(disch:=omega)only[↓aa,ab,simprocAttr,sa, *]
  refine⟨_,Be dX (by omega),sv,rfl,?_,?_⟩
  ·have vg:done=gu zs:=by rw[←h3];simp[gu]
   rw[←vg]
   exact⟨h2.qX (by omega) (by rw[vg];omega),h2.fresh.le (by have:=k3.ag;omega)⟩
  ·exact Bv (rb.ko k3 (by intro x hx;simp only[wad,wbb,wck]at hx;omega)) (by omega) rfl rfl
 ·intro X h;exact h.elim
theorem zaG(H:Heap)(an:H.lo≤H.next)(v:Value)(hv:isCell v=true)(y5:cg v=[v]):af E (aK 258) [v] H fun r H'=>r= .func (.func 295) #[] #[ptr H.next 0]∧H'.objs.get H.next=some (.row [v] none true)∧H'.next=H.next+1∧aq H H':=by
 refine aV Tryz.f258 ?_
 simp only[Tryz.f258]
 simp(disch:=omega)only[↓aa,ab,simprocAttr,sa,Eg,Hz,Ei,Eh, *]
 exact aA
def qQ(all x:Span):Prop:=bt x∧all.ae≤x.ae∧x.ae+x.size≤all.ae+all.size
theorem Eu{all:Span}(ha:bt all):∀ (l:List Span) (op:Span),(∀x∈l,qQ all x)→(op=⟨0,0⟩∨qQ all op)→∀ r∈gJ op l,qQ all r
 |[],op,_,ho,r,hr=>by
  unfold gJ at hr
  split at hr
  ·rw[waG]at hr
   subst hr
   rename_i h
   exact ho.resolve_left fun e=>by rw[e]at h;exact absurd h (by decide)
  ·cases hr
 |s::l,op,hl,ho,r,hr=>by
  have hs:=hl s (wW ..)
  have fL:∀ x∈l,qQ all x:=fun x hx=>hl x (wM _ hx)
  unfold gJ at hr
  split at hr
  ·rename_i h
   have h2:=ho.resolve_left fun e=>by rw[e]at h;exact absurd h.1 (by decide)
   refine Eu ha l _ fL (.inr ?_) r hr
   unfold qQ bt at*
   simp only
   split<;>omega
  ·split at hr
   ·rename_i h
    have h2:=ho.resolve_left fun e=>by rw[e]at h;exact absurd h (by decide)
    rcases wad.1 hr with rfl|hr
    ·exact h2
    ·exact Eu ha l _ fL (.inr hs) r hr
   ·exact Eu ha l _ fL (.inr hs) r hr
theorem Ih:∀ (l:List Span) (op:Span),(gJ op l).length≤l.length+1
 |[],op=>by unfold gJ;split<;>simp
 |s::l,op=>by
  unfold gJ
  split
  ·have:=Ih l ⟨op.ae,(if op.ae+op.size<s.ae+s.size then s.ae+s.size else op.ae+op.size)-op.ae⟩
   simp only[wY];omega
  ·have:=Ih l s
   split<;>simp only[wY]<;>omega
def ng(all:Span)(p:Int):List Span→List Span
 |[]=>if p<all.ae+all.size then[⟨p,all.ae+all.size-p⟩]else[]
 |s::l=>(if p<s.ae then[⟨p,s.ae-p⟩]else[])++ng all (if p<s.ae+s.size then s.ae+s.size else p) l
def su(all:Span)(l:List Span):List Span:=if bt all then ng all all.ae (gJ ⟨0,0⟩ l)else[]
def b9(s:Span):List Value:=[.int .i64 s.ae,.int .i64 s.size]
theorem EI:∀ (l:List Span) (i:Nat) (x:Span),l[i]? =some x→cut (l.flatMap b9) (i*2) 2=some (b9 x)
 |[],_,_,h=>by simp at h
 |s::l,0,x,h=>by
  simp only[wQ,wi]at h
  subst h
  rw[du,wF (by simp[b9])]
  rfl
 |s::l,i+1,x,h=>by
  have:=EI l i x (by simpa using h)
  rw[du]at this⊢
  split at this
  ·rename_i hh
   rw[wF (by simp[b9]at hh ⊢;omega),←this]
   simp only[wbm,b9,wat,wL,waW,waV]
  ·cases this
theorem v8(H:Heap)(l:List Span):cY bD 2 H (l.flatMap b9) l:=by
 refine⟨?_,fun i x hx=>⟨b9 x,EI l i x hx,rfl⟩⟩
 induction l with
 |nil=>rfl
 |cons x l ih=>simp[b9,ih];try omega
theorem b8.OA{b k lo:Nat}{X:Heap}{v:Value}{l:List Span}{f:Option (Nat×Nat)}{gr:Tr (List Nat)}(h:b8 b 2 X v l.length (l.flatMap b9) f)(hk:k<b)(hl:l.length≤9223372036854775807):SLr bD 2 ⟨X.objs.del k,gr,X.next,lo⟩ v l:=by
 obtain⟨_,h⟩:=h
 match f,h with
 |none,⟨h1,h2⟩=>
  have:l=[]:=wac h2
  subst h1 this
  exact SLr.nil
 |some (r,g),⟨h1,h2,h3,_,_,aT,h6,_⟩=>
  subst h1
  exact SLr.row bD.mono h3 ((ui _ _ _ (by omega)).trans h6) (v8 _ l) ⟨wy _,fun x cells g t _ ho=>⟨t,ho⟩⟩ hl
end Go.AM
