/-
  Walks over letters of the functions that the law reaches; written small by a program of mine.
-/
import Derived.Test.YtjgppeeplkidpaaGreatGC17
import Derived.Test.YtjgppeeplkidpaaGreatGC14
import Derived.Test.YtjgppeeplkidpaaGreatGC3
set_option linter.unusedVariables false
set_option linter.unusedSectionVars false
namespace Go.AM
attribute [local instance] fnMaps
open Go Go.Proofs
set_option maxRecDepth 100000
set_option maxHeartbeats 4000000
set_option linter.unusedSimpArgs false
def bF(v:bu):List Value:=[.int .i64 v.kind,.int .i64 v.x]
def cQ:Heap→List Value→bu→Prop:=fun _ part v=>part=bF v
theorem cQ.mono:oj cQ:=fun _ _ _ _ _ h=>h
theorem oe.ext{H H':Heap}{v:Value}(h:oe H v)(hs:Ext H H'):oe H' v:=by
 intro a l c e
 rcases h a l c e with h|⟨r,cells,g,t,h1,h2,h3⟩
 ·exact .inl h
 ·obtain⟨t',h4⟩:=hs.2 r cells g t h2 h3
  exact .inr ⟨r,cells,g,t',h1,wq h2 hs.1,h4⟩
theorem SLr.ext{α:Type}{R:Heap→List Value→α→Prop}(hR:oj R){z:Nat}{H H':Heap}{v:Value}{l:List α}(h:SLr R z H v l)(hs:Ext H H'):SLr R z H' v l:=⟨h.1.ext hR hs,h.2.ext hs⟩
def xt:Heap→List Value→Gn→Prop:=fun H part n=>∃ f r,part=[.int .i64 n.kind,f,r]∧SLr cQ 2 H f n.fields∧SLr RW 1 H r n.bC
theorem xt.mono:oj xt:=fun _ _ _ _ hs ⟨f,r,h1,h2,h3⟩=>⟨f,r,h1,h2.ext cQ.mono hs,h3.ext RW.mono hs⟩
structure eg(H:Heap)(x y:Value)(g:Gr):Prop where
 nodes:SLr xt 3 H x g.nodes
 roots:SLr cQ 2 H y g.roots
theorem eg.ko{H X:Heap}{x y:Value}{g:Gr}(h:eg H x y g)(k:Ko H X):eg X x y g:=⟨h.nodes.ko xt.mono k,h.roots.ko cQ.mono k⟩
theorem jS{l:List Value}{o i:Nat}{x:Value}(h:cut l (o+i*1) 1=some [x]):l[o+i]? =some x:=by
 rw[waY]at h
 exact Ez h
theorem PN{u v:bu}:u=v↔u.kind=v.kind∧u.x=v.x:=⟨fun h=>by subst h;exact⟨rfl,rfl⟩,fun h=>by cases u;cases v;simp only at h;rw[h.1,h.2]⟩
theorem PO(H:Heap)(an:H.lo≤H.next)(v:bu):af E (aK 157) [cZ v] H fun r H'=>r= .bool (decide v.Ok)∧aq H H':=by
 refine aV Tryz.f157 ?_
 simp only[Tryz.f157]
 simp only[cZ]
 repeat'(first|(apply ak<;>intro)|simp(disch:=omega)only[↓aa,ab,simprocAttr,sa, *])
 all_goals((with_reducible show _∧_);exact⟨eZ (by simp only[wT,wG,wbh,wa5,bu.Ok];first|omega|(simp[*]<;>omega)),aA⟩)
theorem zgc(H:Heap)(an:H.lo≤H.next){x y:Value}{g:Gr}(hG:eg H x y g)(v:Value)(l:List bu)(hv:SLr cQ 2 H v l)(hl:∀ u∈l,ny g.nodes.length u):af E (aK 111) [.agg #[x,y],v] H fun r H'=>r= .bool true∧aq H H':=by
 obtain⟨⟨⟨na,nc,rfl,⟨_,hn⟩,_⟩,_⟩,⟨⟨ra,rc,rfl,_,_⟩,_⟩⟩:=hG
 obtain⟨⟨a,ca,rfl,⟨_,ft⟩,bs⟩, -⟩:=hv
 refine aV Tryz.f111 ?_
 simp only[Tryz.f111]
 simp(disch:=omega)only[↓aa,ab,simprocAttr,sa, *]
 refine bP H [1,2,5] (fun T1 H1 u1 k1 n1 l1 g1=>?_) aj
 try simp(disch:=omega)only[sm,sl]at n1 l1 g1
 simp only[sq,simprocAttr]at u1
 refine bL kq (fun nn T X=>∃ i:Nat,nn=l.length-i∧(T.get 5=some (.int .i64 i))∧(T.get 1=T1.get 1∧T.get 2=T1.get 2)∧Ko H1 X∧X.lo=H1.lo∧(i≤l.length)) ?_ ?_
 ·refine⟨_,0,rfl,?_,?_,Ko.refl _,rfl,wJ _⟩<;>exact aJ
 rintro nn dA X1 ⟨i,rfl,m1,w1,kx1,eQ,hi⟩ Qs hQ aG ai
 have bz:=k1.trans kx1;have dZ:=kx1.ag;have ed:=kx1.objs
 by_cases hlt:i<l.length
 ·obtain⟨r,o,cells,gg,tt,part,rfl,hr,aC,aR,rfl⟩:=bs i l[i] (by simp)
  have a1:=bn hlt
  have e1:=bz.objs r hr
  have ho:=hl l[i] (wam hlt)
  generalize l[i]=u at*
  obtain⟨o1,o2⟩:=ho
  have hd:decide u.Ok=true:=wz o1
  unfold bF at aR
  obtain⟨q0,q1⟩:=Ew aR
  by_cases hk:u.kind=2
  ·have o3:=o2 hk
   have dL:decide (u.kind=2)=true:=wz hk
   clear hk o2
   have hb:decide ((g.nodes.length:Int)≤u.x)=false:=wx (by omega)
   repeat'(first|(apply ak<;>intro)|refine aw 4 [Fx,Fx,Fx,Fx,Fx,Fx,Fx,Fx,Fx,Fx,Fx,Fx,Fx,Fx,Fx,Fx,Fx,Fx,Fx,Fx,Fx,Fx,Fx,Fx,Fx] ?_|((with_reducible show af _ _ _ _ _);refine ao H1 (PO _ ah u) ?_;intro H2 k2 l2 n2 g2 q2;try simp(disch:=omega)only[sm,sl]at l2 n2 g2 q2)|((with_reducible show Qs _ _ _ _ _);refine ai _ _ _ _ ?_)|simp(disch:=omega)only[↓aa,ab,simprocAttr,sa,cZ, *])
   all_goals first|(refine hQ _ _ _ ?_ ⟨i+1,rfl,?_,?_,?_,?_,by omega⟩<;>exact aJ)|omega|trace_state
  ·have dL:decide (u.kind=2)=false:=wx hk
   clear hk o2
   repeat'(first|(apply ak<;>intro)|refine aw 4 [Fx,Fx,Fx,Fx,Fx,Fx,Fx,Fx,Fx,Fx,Fx,Fx,Fx,Fx,Fx,Fx,Fx,Fx,Fx,Fx,Fx,Fx,Fx,Fx,Fx] ?_|((with_reducible show af _ _ _ _ _);refine ao H1 (PO _ ah u) ?_;intro H2 k2 l2 n2 g2 q2;try simp(disch:=omega)only[sm,sl]at l2 n2 g2 q2)|((with_reducible show Qs _ _ _ _ _);refine ai _ _ _ _ ?_)|simp(disch:=omega)only[↓aa,ab,simprocAttr,sa,cZ, *])
   all_goals first|(refine hQ _ _ _ ?_ ⟨i+1,rfl,?_,?_,?_,?_,by omega⟩<;>exact aJ)|omega|trace_state
 ·repeat'(first|(apply ak<;>intro)|refine aw 4 [Fx,Fx,Fx,Fx,Fx,Fx,Fx,Fx,Fx,Fx,Fx,Fx,Fx,Fx,Fx,Fx,Fx,Fx,Fx,Fx,Fx,Fx,Fx,Fx,Fx] ?_|((with_reducible show Qs _ _ _ _ _);refine ai _ _ _ _ ?_)|simp(disch:=omega)only[↓aa,ab,simprocAttr,sa, *])
  all_goals exact bq
theorem PQ(H:Heap)(an:H.lo≤H.next){x y:Value}{g:Gr}(hG:eg H x y g)(hg:jT g):af E (aK 72) [.agg #[x,y]] H fun r H'=>r= .bool true∧aq H H':=by
 have c1:=fun(X:Heap) (hx:X.lo≤X.next) (k:Ko H X) (v:Value) (l:List bu) (hv:SLr cQ 2 X v l) (hl:∀ u∈l,ny g.nodes.length u)=>zgc X hx (hG.ko k) v l hv hl
 have A9:=hG.roots
 obtain⟨⟨⟨na,nc,rfl,⟨_,hn⟩,bs⟩,PR⟩,⟨⟨ra,rc,rfl,_,_⟩,_⟩⟩:=hG
 refine aV Tryz.f72 ?_
 simp only[Tryz.f72]
 simp(disch:=omega)only[↓aa,ab,simprocAttr,sa, *]
 refine bP H [1,3] (fun T1 H1 u1 k1 n1 l1 g1=>?_) aj
 try simp(disch:=omega)only[sm,sl]at n1 l1 g1
 simp only[sq,simprocAttr]at u1
 refine bL kq (fun nn T X=>∃ i:Nat,nn=g.nodes.length-i∧(T.get 3=some (.int .i64 i))∧(T.get 1=T1.get 1)∧Ko H1 X∧X.lo=H1.lo∧(i≤g.nodes.length)) ?_ ?_
 ·refine⟨_,0,rfl,?_,?_,Ko.refl _,rfl,wJ _⟩<;>exact aJ
 rintro nn dA X1 ⟨i,rfl,m1,w1,kx1,eQ,hi⟩ Qs hQ aG ai
 have bz:=k1.trans kx1;have dZ:=kx1.ag;have ed:=kx1.objs
 by_cases hlt:i<g.nodes.length
 ·obtain⟨r,o,cells,gg,tt,part,rfl,hr,aC,aR,f,w,rfl,hf,hw⟩:=bs i g.nodes[i] (by simp)
  have a1:=bn hlt
  have e1:=bz.objs r hr
  have ho:=hg.node g.nodes[i] (wam hlt)
  generalize g.nodes[i]=n at*
  obtain⟨o1,o2,o3,o4,o5⟩:=ho
  have qH:=hf
  obtain⟨⟨fa,fc,rfl,⟨_,fm⟩,_⟩,_⟩:=hf
  obtain⟨⟨wa,wc,rfl,⟨_,wm⟩,_⟩,_⟩:=hw
  repeat'(first|(apply ak<;>intro)|apply bw|((with_reducible show af _ _ _ _ _);refine ao H1 (c1 _ ah aj _ _ (qH.ko cQ.mono aj) o5) ?_;intro H2 k2 l2 n2 g2 q2;try simp(disch:=omega)only[sm,sl]at l2 n2 g2 q2)|((with_reducible show Qs _ _ _ _ _);first|refine ai _ _ _ _ ?_|refine aG _ _ _ ?_)|simp(disch:=omega)only[↓aa,ab,simprocAttr,sa, *])
  all_goals first|refine hQ _ _ _ ?_ ⟨i+1,rfl,?_,?_,?_,?_,by omega⟩<;>exact aJ|omega|trace_state
 ·repeat'(first|(apply ak<;>intro)|((with_reducible show af _ _ _ _ _);refine ao H1 (c1 _ ah aj _ _ (A9.ko cQ.mono aj) hg.root) ?_;intro H2 k2 l2 n2 g2 q2;try simp(disch:=omega)only[sm,sl]at l2 n2 g2 q2)|((with_reducible show Qs _ _ _ _ _);refine ai _ _ _ _ ?_)|simp(disch:=omega)only[↓aa,ab,simprocAttr,sa, *])
  all_goals exact bq
theorem zgi(H:Heap)(an:H.lo≤H.next)(va vb:Value)(l m:List Int)(ha:SLr (RInt .i64) 1 H va l)(hb:SLr (RInt .i64) 1 H vb m):af E (aK 52) [va,vb] H fun r H'=>r= .bool (decide (l=m))∧aq H H':=by
 obtain⟨⟨a,ca,rfl,⟨_,ft⟩,bs⟩, -⟩:=ha
 obtain⟨⟨b,cb,rfl,⟨_,me⟩,fh⟩, -⟩:=hb
 refine aV Tryz.f52 ?_
 simp only[Tryz.f52]
 by_cases bj:l.length=m.length
 ·have hd:decide ((l.length:Int)=m.length)=true:=wz (by omega)
  simp(disch:=omega)only[↓aa,ab,simprocAttr,sa, *]
  all_goals try omega
  refine bP H [0,1,12,13] (fun T1 H1 u1 k1 n1 l1 g1=>?_) aj
  try simp(disch:=omega)only[sm,sl]at n1 l1 g1
  simp only[sq,simprocAttr]at u1
  refine bL kq (fun nn T X=>∃ i:Nat,nn=l.length-i∧(T.get 13=some (.int .i64 i))∧(T.get 0=T1.get 0∧T.get 1=T1.get 1∧T.get 12=T1.get 12)∧Ko H1 X∧X.lo=H1.lo∧(i≤l.length∧l.take i=m.take i)) ?_ ?_
  ·refine⟨_,0,rfl,?_,?_,Ko.refl _,rfl,⟨wJ _,rfl⟩⟩<;>exact aJ
  rintro nn dA X1 ⟨i,rfl,m1,w1,kx1,eQ,⟨hi,hE⟩⟩ Qs hQ aG ai
  have bz:=k1.trans kx1;have dZ:=kx1.ag;have ed:=kx1.objs
  by_cases hlt:i<l.length
  ·obtain⟨r,o,cells,gg,tt,part,rfl,hr,aC,aR,rfl⟩:=bs i l[i] (by simp)
   obtain⟨r2,o2,gy,jP,jQ,jR,rfl,cq,fZ,cM,rfl⟩:=fh i m[i] (by simp)
   have a1:=bn hlt
   have a2:=bn (show i<m.length by omega)
   have e1:=bz.objs r hr
   have e2:=bz.objs r2 cq
   have hx:l[i]? =some l[i]:=wj hlt
   have hy:m[i]? =some m[i]:=wj (by omega)
   generalize l[i]=x at aR hx
   generalize m[i]=y at cM hy
   have c1:=jS aR
   have c2:=jS cM
   by_cases bE:x=y
   ·have h3:l.take (i+1)=m.take (i+1):=by rw[wR,wR,hE,hx,hy,bE]
    have hc:decide ((x:Int)=y)=true:=wz (by rw[bE])
    clear bE
    clear hE
    repeat'(first|(apply ak<;>intro)|refine aw 6 [Fx,Fx,Fx,Fx,Fx,Fx,Fx,Fx,Fx] ?_|((with_reducible show Qs _ _ _ _ _);refine ai _ _ _ _ ?_)|simp(disch:=omega)only[↓aa,ab,simprocAttr,sa, *])
    all_goals first|(refine hQ _ _ _ ?_ ⟨i+1,rfl,?_,?_,?_,?_,⟨by omega,h3⟩⟩<;>exact aJ)|omega
   ·have h3:decide (l=m)=false:=wx fun e=>by rw[e,hy]at hx;exact bE (waH hx).symm
    have hc:decide ((x:Int)=y)=false:=wx (by omega)
    clear bE
    clear hE
    repeat'(first|(apply ak<;>intro)|refine aw 6 [Fx,Fx,Fx,Fx,Fx,Fx,Fx,Fx,Fx] ?_|((with_reducible show Qs _ _ _ _ _);first|refine ai _ _ _ _ ?_|refine aG _ _ _ ?_)|simp(disch:=omega)only[↓aa,ab,simprocAttr,sa, *])
    all_goals exact bq
  ·have hT:decide (l=m)=true:=wz (by
    have:i=l.length:=by omega
    subst this
    rw[waj,bj,waj]at hE
    exact hE)
   repeat'(first|(apply ak<;>intro)|refine aw 6 [Fx,Fx,Fx,Fx,Fx,Fx,Fx,Fx,Fx] ?_|((with_reducible show Qs _ _ _ _ _);refine ai _ _ _ _ ?_)|simp(disch:=omega)only[↓aa,ab,simprocAttr,sa, *])
   all_goals exact bq
 ·have hF:decide (l=m)=false:=wx fun e=>bj (by rw[e])
  have hd:decide ((l.length:Int)=m.length)=false:=wx (by omega)
  simp(disch:=omega)only[↓aa,ab,simprocAttr,sa, *]
  all_goals exact bq
theorem zgj(H:Heap)(an:H.lo≤H.next)(va vb:Value)(l m:List Int)(ha:SLr (RInt .i64) 1 H va l)(hb:SLr (RInt .i64) 1 H vb m):af E (aK 54) [va,vb] H fun r H'=>r= .bool (decide (l=m))∧aq H H':=by
 obtain⟨⟨a,ca,rfl,⟨_,ft⟩,bs⟩, -⟩:=ha
 obtain⟨⟨b,cb,rfl,⟨_,me⟩,fh⟩, -⟩:=hb
 refine aV Tryz.f54 ?_
 simp only[Tryz.f54]
 by_cases bj:l.length=m.length
 ·have hd:decide ((l.length:Int)=m.length)=true:=wz (by omega)
  simp(disch:=omega)only[↓aa,ab,simprocAttr,sa, *]
  all_goals try omega
  refine bP H [0,1,5] (fun T1 H1 u1 k1 n1 l1 g1=>?_) aj
  try simp(disch:=omega)only[sm,sl]at n1 l1 g1
  simp only[sq,simprocAttr]at u1
  refine bL kq (fun nn T X=>∃ i:Nat,nn=l.length-i∧(T.get 5=some (.int .i64 i))∧(T.get 0=T1.get 0∧T.get 1=T1.get 1)∧Ko H1 X∧X.lo=H1.lo∧(i≤l.length∧l.take i=m.take i)) ?_ ?_
  ·refine⟨_,0,rfl,?_,?_,Ko.refl _,rfl,⟨wJ _,rfl⟩⟩<;>exact aJ
  rintro nn dA X1 ⟨i,rfl,m1,w1,kx1,eQ,⟨hi,hE⟩⟩ Qs hQ aG ai
  have bz:=k1.trans kx1;have dZ:=kx1.ag;have ed:=kx1.objs
  by_cases hlt:i<l.length
  ·obtain⟨r,o,cells,gg,tt,part,rfl,hr,aC,aR,rfl⟩:=bs i l[i] (by simp)
   obtain⟨r2,o2,gy,jP,jQ,jR,rfl,cq,fZ,cM,rfl⟩:=fh i m[i] (by simp)
   have a1:=bn hlt
   have a2:=bn (show i<m.length by omega)
   have e1:=bz.objs r hr
   have e2:=bz.objs r2 cq
   have hx:l[i]? =some l[i]:=wj hlt
   have hy:m[i]? =some m[i]:=wj (by omega)
   generalize l[i]=x at aR hx
   generalize m[i]=y at cM hy
   have c1:=jS aR
   have c2:=jS cM
   by_cases bE:x=y
   ·have h3:l.take (i+1)=m.take (i+1):=by rw[wR,wR,hE,hx,hy,bE]
    have hc:decide ((x:Int)=y)=true:=wz (by rw[bE])
    clear bE
    clear hE
    repeat'(first|(apply ak<;>intro)|refine aw 6 [Fx,Fx,Fx,Fx,Fx,Fx,Fx,Fx,Fx] ?_|((with_reducible show Qs _ _ _ _ _);refine ai _ _ _ _ ?_)|simp(disch:=omega)only[↓aa,ab,simprocAttr,sa, *])
    all_goals first|(refine hQ _ _ _ ?_ ⟨i+1,rfl,?_,?_,?_,?_,⟨by omega,h3⟩⟩<;>exact aJ)|omega
   ·have h3:decide (l=m)=false:=wx fun e=>by rw[e,hy]at hx;exact bE (waH hx).symm
    have hc:decide ((x:Int)=y)=false:=wx (by omega)
    clear bE
    clear hE
    repeat'(first|(apply ak<;>intro)|refine aw 6 [Fx,Fx,Fx,Fx,Fx,Fx,Fx,Fx,Fx] ?_|((with_reducible show Qs _ _ _ _ _);first|refine ai _ _ _ _ ?_|refine aG _ _ _ ?_)|simp(disch:=omega)only[↓aa,ab,simprocAttr,sa, *])
    all_goals exact bq
  ·have hT:decide (l=m)=true:=wz (by
    have:i=l.length:=by omega
    subst this
    rw[waj,bj,waj]at hE
    exact hE)
   repeat'(first|(apply ak<;>intro)|refine aw 6 [Fx,Fx,Fx,Fx,Fx,Fx,Fx,Fx,Fx] ?_|((with_reducible show Qs _ _ _ _ _);refine ai _ _ _ _ ?_)|simp(disch:=omega)only[↓aa,ab,simprocAttr,sa, *])
   all_goals exact bq
 ·have hF:decide (l=m)=false:=wx fun e=>bj (by rw[e])
  have hd:decide ((l.length:Int)=m.length)=false:=wx (by omega)
  simp(disch:=omega)only[↓aa,ab,simprocAttr,sa, *]
  all_goals exact bq
theorem zgk(H:Heap)(an:H.lo≤H.next)(va vb:Value)(l m:List Nat)(ha:SLr RW 1 H va l)(hb:SLr RW 1 H vb m):af E (aK 182) [va,vb] H fun r H'=>r= .bool (decide (l=m))∧aq H H':=by
 obtain⟨⟨a,ca,rfl,⟨_,ft⟩,bs⟩, -⟩:=ha
 obtain⟨⟨b,cb,rfl,⟨_,me⟩,fh⟩, -⟩:=hb
 refine aV Tryz.f182 ?_
 simp only[Tryz.f182]
 by_cases bj:l.length=m.length
 ·have hd:decide ((l.length:Int)=m.length)=true:=wz (by omega)
  simp(disch:=omega)only[↓aa,ab,simprocAttr,sa, *]
  all_goals try omega
  refine bP H [0,1,12,13] (fun T1 H1 u1 k1 n1 l1 g1=>?_) aj
  try simp(disch:=omega)only[sm,sl]at n1 l1 g1
  simp only[sq,simprocAttr]at u1
  refine bL kq (fun nn T X=>∃ i:Nat,nn=l.length-i∧(T.get 13=some (.int .i64 i))∧(T.get 0=T1.get 0∧T.get 1=T1.get 1∧T.get 12=T1.get 12)∧Ko H1 X∧X.lo=H1.lo∧(i≤l.length∧l.take i=m.take i)) ?_ ?_
  ·refine⟨_,0,rfl,?_,?_,Ko.refl _,rfl,⟨wJ _,rfl⟩⟩<;>exact aJ
  rintro nn dA X1 ⟨i,rfl,m1,w1,kx1,eQ,⟨hi,hE⟩⟩ Qs hQ aG ai
  have bz:=k1.trans kx1;have dZ:=kx1.ag;have ed:=kx1.objs
  by_cases hlt:i<l.length
  ·obtain⟨r,o,cells,gg,tt,part,rfl,hr,aC,aR,rfl⟩:=bs i l[i] (by simp)
   obtain⟨r2,o2,gy,jP,jQ,jR,rfl,cq,fZ,cM,rfl⟩:=fh i m[i] (by simp)
   have a1:=bn hlt
   have a2:=bn (show i<m.length by omega)
   have e1:=bz.objs r hr
   have e2:=bz.objs r2 cq
   have hx:l[i]? =some l[i]:=wj hlt
   have hy:m[i]? =some m[i]:=wj (by omega)
   generalize l[i]=x at aR hx
   generalize m[i]=y at cM hy
   have c1:=jS aR
   have c2:=jS cM
   simp only[wV]at c1 c2
   by_cases bE:x=y
   ·have h3:l.take (i+1)=m.take (i+1):=by rw[wR,wR,hE,hx,hy,bE]
    have hc:decide ((x:Int)=y)=true:=wz (by rw[bE])
    clear bE
    clear hE
    repeat'(first|(apply ak<;>intro)|refine aw 6 [Fx,Fx,Fx,Fx,Fx,Fx,Fx,Fx,Fx] ?_|((with_reducible show Qs _ _ _ _ _);refine ai _ _ _ _ ?_)|simp(disch:=omega)only[↓aa,ab,simprocAttr,sa, *])
    all_goals first|(refine hQ _ _ _ ?_ ⟨i+1,rfl,?_,?_,?_,?_,⟨by omega,h3⟩⟩<;>exact aJ)|omega
   ·have h3:decide (l=m)=false:=wx fun e=>by rw[e,hy]at hx;exact bE (waH hx).symm
    have hc:decide ((x:Int)=y)=false:=wx (by omega)
    clear bE
    clear hE
    repeat'(first|(apply ak<;>intro)|refine aw 6 [Fx,Fx,Fx,Fx,Fx,Fx,Fx,Fx,Fx] ?_|((with_reducible show Qs _ _ _ _ _);first|refine ai _ _ _ _ ?_|refine aG _ _ _ ?_)|simp(disch:=omega)only[↓aa,ab,simprocAttr,sa, *])
    all_goals exact bq
  ·have hT:decide (l=m)=true:=wz (by
    have:i=l.length:=by omega
    subst this
    rw[waj,bj,waj]at hE
    exact hE)
   repeat'(first|(apply ak<;>intro)|refine aw 6 [Fx,Fx,Fx,Fx,Fx,Fx,Fx,Fx,Fx] ?_|((with_reducible show Qs _ _ _ _ _);refine ai _ _ _ _ ?_)|simp(disch:=omega)only[↓aa,ab,simprocAttr,sa, *])
   all_goals exact bq
 ·have hF:decide (l=m)=false:=wx fun e=>bj (by rw[e])
  have hd:decide ((l.length:Int)=m.length)=false:=wx (by omega)
  simp(disch:=omega)only[↓aa,ab,simprocAttr,sa, *]
  all_goals exact bq
theorem zgl(H:Heap)(an:H.lo≤H.next)(va vb:Value)(l m:List Nat)(ha:SLr RW 1 H va l)(hb:SLr RW 1 H vb m):af E (aK 185) [va,vb] H fun r H'=>r= .bool (decide (l=m))∧aq H H':=by
 obtain⟨⟨a,ca,rfl,⟨_,ft⟩,bs⟩, -⟩:=ha
 obtain⟨⟨b,cb,rfl,⟨_,me⟩,fh⟩, -⟩:=hb
 refine aV Tryz.f185 ?_
 simp only[Tryz.f185]
 by_cases bj:l.length=m.length
 ·have hd:decide ((l.length:Int)=m.length)=true:=wz (by omega)
  simp(disch:=omega)only[↓aa,ab,simprocAttr,sa, *]
  all_goals try omega
  refine bP H [0,1,5] (fun T1 H1 u1 k1 n1 l1 g1=>?_) aj
  try simp(disch:=omega)only[sm,sl]at n1 l1 g1
  simp only[sq,simprocAttr]at u1
  refine bL kq (fun nn T X=>∃ i:Nat,nn=l.length-i∧(T.get 5=some (.int .i64 i))∧(T.get 0=T1.get 0∧T.get 1=T1.get 1)∧Ko H1 X∧X.lo=H1.lo∧(i≤l.length∧l.take i=m.take i)) ?_ ?_
  ·refine⟨_,0,rfl,?_,?_,Ko.refl _,rfl,⟨wJ _,rfl⟩⟩<;>exact aJ
  rintro nn dA X1 ⟨i,rfl,m1,w1,kx1,eQ,⟨hi,hE⟩⟩ Qs hQ aG ai
  have bz:=k1.trans kx1;have dZ:=kx1.ag;have ed:=kx1.objs
  by_cases hlt:i<l.length
  ·obtain⟨r,o,cells,gg,tt,part,rfl,hr,aC,aR,rfl⟩:=bs i l[i] (by simp)
   obtain⟨r2,o2,gy,jP,jQ,jR,rfl,cq,fZ,cM,rfl⟩:=fh i m[i] (by simp)
   have a1:=bn hlt
   have a2:=bn (show i<m.length by omega)
   have e1:=bz.objs r hr
   have e2:=bz.objs r2 cq
   have hx:l[i]? =some l[i]:=wj hlt
   have hy:m[i]? =some m[i]:=wj (by omega)
   generalize l[i]=x at aR hx
   generalize m[i]=y at cM hy
   have c1:=jS aR
   have c2:=jS cM
   simp only[wV]at c1 c2
   by_cases bE:x=y
   ·have h3:l.take (i+1)=m.take (i+1):=by rw[wR,wR,hE,hx,hy,bE]
    have hc:decide ((x:Int)=y)=true:=wz (by rw[bE])
    clear bE
    clear hE
    repeat'(first|(apply ak<;>intro)|refine aw 6 [Fx,Fx,Fx,Fx,Fx,Fx,Fx,Fx,Fx] ?_|((with_reducible show Qs _ _ _ _ _);refine ai _ _ _ _ ?_)|simp(disch:=omega)only[↓aa,ab,simprocAttr,sa, *])
    all_goals first|(refine hQ _ _ _ ?_ ⟨i+1,rfl,?_,?_,?_,?_,⟨by omega,h3⟩⟩<;>exact aJ)|omega
   ·have h3:decide (l=m)=false:=wx fun e=>by rw[e,hy]at hx;exact bE (waH hx).symm
    have hc:decide ((x:Int)=y)=false:=wx (by omega)
    clear bE
    clear hE
    repeat'(first|(apply ak<;>intro)|refine aw 6 [Fx,Fx,Fx,Fx,Fx,Fx,Fx,Fx,Fx] ?_|((with_reducible show Qs _ _ _ _ _);first|refine ai _ _ _ _ ?_|refine aG _ _ _ ?_)|simp(disch:=omega)only[↓aa,ab,simprocAttr,sa, *])
    all_goals exact bq
  ·have hT:decide (l=m)=true:=wz (by
    have:i=l.length:=by omega
    subst this
    rw[waj,bj,waj]at hE
    exact hE)
   repeat'(first|(apply ak<;>intro)|refine aw 6 [Fx,Fx,Fx,Fx,Fx,Fx,Fx,Fx,Fx] ?_|((with_reducible show Qs _ _ _ _ _);refine ai _ _ _ _ ?_)|simp(disch:=omega)only[↓aa,ab,simprocAttr,sa, *])
   all_goals exact bq
 ·have hF:decide (l=m)=false:=wx fun e=>bj (by rw[e])
  have hd:decide ((l.length:Int)=m.length)=false:=wx (by omega)
  simp(disch:=omega)only[↓aa,ab,simprocAttr,sa, *]
  all_goals exact bq
theorem PU(H:Heap)(an:H.lo≤H.next)(va vb:Value)(l m:List bu)(ha:SLr cQ 2 H va l)(hb:SLr cQ 2 H vb m):af E (aK 179) [va,vb] H fun r H'=>r= .bool (decide (l=m))∧aq H H':=by
 obtain⟨⟨a,ca,rfl,⟨_,ft⟩,bs⟩, -⟩:=ha
 obtain⟨⟨b,cb,rfl,⟨_,me⟩,fh⟩, -⟩:=hb
 refine aV Tryz.f179 ?_
 simp only[Tryz.f179]
 by_cases bj:l.length=m.length
 ·have hd:decide ((l.length:Int)=m.length)=true:=wz (by omega)
  simp(disch:=omega)only[↓aa,ab,simprocAttr,sa, *]
  all_goals try omega
  refine bP H [0,1,12,13] (fun T1 H1 u1 k1 n1 l1 g1=>?_) aj
  try simp(disch:=omega)only[sm,sl]at n1 l1 g1
  simp only[sq,simprocAttr]at u1
  refine bL kq (fun nn T X=>∃ i:Nat,nn=l.length-i∧(T.get 13=some (.int .i64 i))∧(T.get 0=T1.get 0∧T.get 1=T1.get 1∧T.get 12=T1.get 12)∧Ko H1 X∧X.lo=H1.lo∧(i≤l.length∧l.take i=m.take i)) ?_ ?_
  ·refine⟨_,0,rfl,?_,?_,Ko.refl _,rfl,⟨wJ _,rfl⟩⟩<;>exact aJ
  rintro nn dA X1 ⟨i,rfl,m1,w1,kx1,eQ,⟨hi,hE⟩⟩ Qs hQ aG ai
  have bz:=k1.trans kx1;have dZ:=kx1.ag;have ed:=kx1.objs
  by_cases hlt:i<l.length
  ·obtain⟨r,o,cells,gg,tt,part,rfl,hr,aC,aR,rfl⟩:=bs i l[i] (by simp)
   obtain⟨r2,o2,gy,jP,jQ,jR,rfl,cq,fZ,cM,rfl⟩:=fh i m[i] (by simp)
   have a1:=bn hlt
   have a2:=bn (show i<m.length by omega)
   have e1:=bz.objs r hr
   have e2:=bz.objs r2 cq
   have hx:l[i]? =some l[i]:=wj hlt
   have hy:m[i]? =some m[i]:=wj (by omega)
   generalize l[i]=x at aR hx
   generalize m[i]=y at cM hy
   unfold bF at aR cM
   by_cases bE:x=y
   ·have h3:l.take (i+1)=m.take (i+1):=by rw[wR,wR,hE,hx,hy,bE]
    subst bE
    clear hE
    repeat'(first|(apply ak<;>intro)|refine aw 6 [Fx,Fx,Fx,Fx,Fx,Fx,Fx,Fx,Fx] ?_|((with_reducible show Qs _ _ _ _ _);refine ai _ _ _ _ ?_)|simp(disch:=omega)only[↓aa,ab,simprocAttr,sa,wbq,wb8, *])
    all_goals first|(refine hQ _ _ _ ?_ ⟨i+1,rfl,?_,?_,?_,?_,⟨by omega,h3⟩⟩<;>exact aJ)|omega
   ·have h3:decide (l=m)=false:=wx fun e=>by rw[e,hy]at hx;exact bE (waH hx).symm
    have hc:(x.kind==y.kind&&x.x==y.x)=false:=waK.2 fun q=>by
     simp only[wA,wbO]at q
     exact bE (PN.2 q)
    clear bE
    clear hE
    repeat'(first|(apply ak<;>intro)|refine aw 6 [Fx,Fx,Fx,Fx,Fx,Fx,Fx,Fx,Fx] ?_|((with_reducible show Qs _ _ _ _ _);first|refine ai _ _ _ _ ?_|refine aG _ _ _ ?_)|simp(disch:=omega)only[↓aa,ab,simprocAttr,sa,wbq,wb8, *])
    all_goals exact bq
  ·have hT:decide (l=m)=true:=wz (by
    have:i=l.length:=by omega
    subst this
    rw[waj,bj,waj]at hE
    exact hE)
   repeat'(first|(apply ak<;>intro)|refine aw 6 [Fx,Fx,Fx,Fx,Fx,Fx,Fx,Fx,Fx] ?_|((with_reducible show Qs _ _ _ _ _);refine ai _ _ _ _ ?_)|simp(disch:=omega)only[↓aa,ab,simprocAttr,sa, *])
   all_goals exact bq
 ·have hF:decide (l=m)=false:=wx fun e=>bj (by rw[e])
  have hd:decide ((l.length:Int)=m.length)=false:=wx (by omega)
  simp(disch:=omega)only[↓aa,ab,simprocAttr,sa, *]
  all_goals exact bq
theorem zgd(H:Heap)(an:H.lo≤H.next){x y:Value}{g:Gr}(hG:eg H x y g)(v:bu)(hv:ny g.nodes.length v):af E (aK 246) [.agg #[x,y],cZ v] H fun r H'=>r= .bool true∧aq H H':=by
 have c1:=fun(X:Heap) (hx:X.lo≤X.next)=>zaw X hx v
 obtain⟨⟨⟨na,nc,rfl,⟨_,hn⟩,_⟩,_⟩,⟨⟨ra,rc,rfl,_,_⟩,_⟩⟩:=hG
 obtain⟨o1,o2⟩:=hv
 have e1:(if v.Ok then(0:Int)else 1)=0:=wF o1
 rw[e1]at c1
 unfold cZ at c1
 refine aV Tryz.f246 ?_
 simp only[Tryz.f246]
 simp only[cZ]
 by_cases hk:v.kind=2
 ·have o3:=o2 hk
  have hb:decide (v.x<(g.nodes.length:Int))=true:=wz (by omega)
  have dL:decide (v.kind=2)=true:=wz hk
  clear hk o1 o2 e1
  repeat'(first|((with_reducible show af _ _ _ _ _);refine ao H (c1 _ ah) ?_;intro H2 k2 l2 n2 g2 q2;try simp(disch:=omega)only[sm,sl]at l2 n2 g2 q2)|simp(disch:=omega)only[↓aa,ab,simprocAttr,sa, *])
  all_goals exact bq
 ·have dL:decide (v.kind=2)=false:=wx hk
  clear hk o1 o2 e1
  repeat'(first|((with_reducible show af _ _ _ _ _);refine ao H (c1 _ ah) ?_;intro H2 k2 l2 n2 g2 q2;try simp(disch:=omega)only[sm,sl]at l2 n2 g2 q2)|simp(disch:=omega)only[↓aa,ab,simprocAttr,sa, *])
  all_goals exact bq
theorem zge(H:Heap)(an:H.lo≤H.next){x y:Value}{g:Gr}(hG:eg H x y g):af E (aK 245) [.agg #[x,y]] H fun r H'=>r= .func (.func 289) #[] #[ptr H.next 0]∧H'.objs.get H.next=some (.row [x,y] none true)∧H'.next=H.next+1∧aq H H':=by
 obtain⟨⟨⟨na,nc,rfl,⟨_,hn⟩,_⟩,_⟩,⟨⟨ra,rc,rfl,_,_⟩,_⟩⟩:=hG
 refine aV Tryz.f245 ?_
 simp only[Tryz.f245]
 simp(disch:=omega)only[↓aa,ab,simprocAttr,sa,Eg,Hz,Ei,Eh, *]
 exact aA
def EZ(g:Gr):List bu:=g.nodes.flatMap (·.fields)++g.roots
theorem zgf:E.fn.get 289=some Tryz.f289:=kq
theorem zgg(H:Heap)(an:H.lo≤H.next)(bV:Nat){x z:Value}{g:Gr}(hV:H.objs.get bV=some (.row [x,z] none true))(lV:bV<H.next)(hG:eg H x z g)
  (y:Value) (I:List bu→Heap→Prop) (F:Heap→Prop) (H1:Heap) (sH:aq H H1) (jJ:H1.next=H.next+2) (hI:∀ rest X X',I rest X→Pd (H.next+2) X X'→I rest X') (hB:∀ rest X,I rest X→fV H [] X)
  (hy:∀ v rest X,I (v::rest) X→af E y [cZ v] X fun r X'=>(r= .bool true∧I rest X'∧Yd (H.next+2) ((H.next+1)::[]) X X')∨(r= .bool false∧F X'))
  (h0:I (EZ g) H1):af E (.func (.func 289) #[] #[ptr bV 0]) [y] H1 fun _ X=>I [] X∨F X:=by
 have yp:=hB _ _ h0
 have e1:=(yp.objs bV lV (by simp)).trans hV
 have l1:=sH.lo
 obtain⟨⟨⟨na,nc,rfl,⟨CL,hn⟩,bs⟩,_⟩,⟨⟨ra,rc,rfl,⟨hrc,iQ⟩,z9⟩,_⟩⟩:=hG
 unfold EZ at h0
 refine yN kq zgf rfl rfl ?_
 simp only[Tryz.f289]
 simp(disch:=omega)only[↓aa,ab,simprocAttr,sa,wL,wat, *]
 refine bP H1 [0,1,10,11,12] (fun T5 H5 u5 j5 n5 l5 g5=>?_) aj
 try simp(disch:=omega)only[sm,sl]at n5 l5 g5
 simp only[sq,simprocAttr]at u5
 refine bL kq (fun nn T X=>∃ i:Nat,nn=g.nodes.length-i∧(T.get 12=some (.int .i64 i))∧(T.get 0=T5.get 0∧T.get 1=T5.get 1∧T.get 10=T5.get 10∧T.get 11=T5.get 11)∧True∧True∧(i≤g.nodes.length∧I ((g.nodes.drop i).flatMap (·.fields)++g.roots) X)) ?_ ?_
 ·have i5:=hI _ _ _ h0 (aq.pd (j5.same l5) (by omega))
  refine⟨_,0,rfl,?_,?_,trivial,trivial,wJ _,i5⟩<;>exact aJ
 rintro nn zk X5 ⟨i,rfl,m5,w5,_,_,hi,BR⟩ Qs hQ aG ai
 have E0:=hB _ _ BR
 have lX:=E0.lo;have nX:=E0.ag
 have eV:=(E0.objs bV lV (by simp)).trans hV
 by_cases hlt:i<g.nodes.length
 ·obtain⟨r,o,cells,gg,tt,part,rfl,hr,aC,aR,fv,wv,rfl,hf,hw⟩:=bs i g.nodes[i] (by simp)
  have a1:=bn hlt
  have eX:=(E0.objs r hr (by simp)).trans aC
  rw[wX hlt,wbm,waP]at BR
  generalize g.nodes[i]=nd at*
  obtain⟨⟨fa,fc,rfl,⟨_,fm⟩,ur⟩,_⟩:=hf
  obtain⟨⟨wa,wc,rfl,⟨_,wm⟩,_⟩,_⟩:=hw
  repeat'(first|(apply ak<;>intro)|((with_reducible show Qs _ _ _ _ _);refine ai _ _ _ _ ?_)|simp(disch:=omega)only[↓aa,ab,simprocAttr,sa,wL,wat, *])
  all_goals try omega
  have kI:=hQ
  have BQ:=aG
  refine bP X5 [0,1,10,11,12,17,18,19] (fun T6 H6 u6 j6 n6 l6 g6=>?_) aj
  try simp(disch:=omega)only[sm,sl]at n6 l6 g6
  simp only[sq,simprocAttr]at u6
  refine bL kq (fun nn T X=>∃ (j:Nat),nn=nd.fields.length-j∧(T.get 19=some (.int .i64 j))∧(T.get 0=T6.get 0∧T.get 1=T6.get 1∧T.get 10=T6.get 10∧T.get 11=T6.get 11∧T.get 12=T6.get 12∧T.get 17=T6.get 17∧T.get 18=T6.get 18)∧True∧True∧(j≤nd.fields.length∧I (nd.fields.drop j++((g.nodes.drop (i+1)).flatMap (·.fields)++g.roots)) X)) ?_ ?_
  ·have i6:=hI _ _ _ BR (aq.pd (j6.same (by first|omega|(simp only[l6];omega))) (by omega))
   refine⟨_,0,rfl,?_,?_,trivial,trivial,wJ _,i6⟩<;>exact aJ
  rintro nn I6 X6 ⟨j,rfl,m6,w6,_,_,hj,BS⟩ Qs hQ aG ai
  have I7:=hB _ _ BS
  have I8:=I7.lo;have nX6:=I7.ag
  by_cases BU:j<nd.fields.length
  ·obtain⟨r2,o2,gy,jP,jQ,jR,rfl,cq,fZ,cM,rfl⟩:=ur j nd.fields[j] (by simp)
   have a2:=bn BU
   have zm:=(I7.objs r2 cq (by simp)).trans fZ
   rw[wX BU,wat]at BS
   generalize nd.fields[j]=u at*
   unfold bF at cM
   repeat'(first|(apply ak<;>intro)|((with_reducible show Qs _ _ _ _ _);refine ai _ _ _ _ ?_)|simp(disch:=omega)only[↓aa,ab,simprocAttr,sa,wL,wat, *])
   all_goals try omega
   refine uu hI hy BS aA nX6 ?_ ?_
   ·intro X' h1 h2
    have lY:=h2.lo;have nY:=h2.ag
    simp(disch:=omega)only[sm,sl]at lY nY
    clear h2
    simp(disch:=omega)only[↓aa,ab,simprocAttr,sa, *]
    refine hQ _ _ _ ?_ ⟨j+1,rfl,?_,?_,trivial,trivial,by omega,h1⟩<;>exact aJ
   ·intro X' h1
    repeat'(first|((with_reducible show Qs _ _ _ _ _);refine aG _ _ _ ?_)|simp(disch:=omega)only[↓aa,ab,simprocAttr,sa, *])
    refine BQ _ _ _ ?_
    simp(disch:=omega)only[↓aa,ab,simprocAttr,sa, *]
    first|exact .inr h1|exact .inr trivial
  ·have ej:j=nd.fields.length:=by omega
   rw[ej,wbF,wL]at BS
   have hQ:=kI
   repeat'(first|(apply ak<;>intro)|((with_reducible show Qs _ _ _ _ _);refine ai _ _ _ _ ?_)|simp(disch:=omega)only[↓aa,ab,simprocAttr,sa,wL,wat, *])
   all_goals try omega
   refine hQ _ _ _ ?_ ⟨i+1,rfl,?_,?_,trivial,trivial,by omega,BS⟩<;>exact aJ
 ·have ei:i=g.nodes.length:=by omega
  rw[ei,wbF,List.flatMap_nil,wL]at BR
  repeat'(first|(apply ak<;>intro)|((with_reducible show Qs _ _ _ _ _);refine ai _ _ _ _ ?_)|simp(disch:=omega)only[↓aa,ab,simprocAttr,sa,wL,wat, *])
  all_goals try omega
  refine bP X5 [0,30,31,32] (fun T7 H7 u7 j7 n7 l7 g7=>?_) aj
  try simp(disch:=omega)only[sm,sl]at n7 l7 g7
  simp only[sq,simprocAttr]at u7
  refine bL kq (fun nn T X=>∃ (j:Nat),nn=g.roots.length-j∧(T.get 32=some (.int .i64 j))∧(T.get 0=T7.get 0∧T.get 30=T7.get 30∧T.get 31=T7.get 31)∧True∧True∧(j≤g.roots.length∧I (g.roots.drop j) X)) ?_ ?_
  ·have i7:=hI _ _ _ BR (aq.pd (j7.same (by first|omega|(simp only[l7];omega))) (by omega))
   refine⟨_,0,rfl,?_,?_,trivial,trivial,wJ _,i7⟩<;>exact aJ
  rintro nn I9 X7 ⟨j,rfl,m7,w7,_,_,hj,BV⟩ Qs hQ aG ai
  have Ja:=hB _ _ BV
  have Jb:=Ja.lo;have nX7:=Ja.ag
  by_cases BU:j<g.roots.length
  ·obtain⟨r2,o2,gy,jP,jQ,jR,rfl,cq,fZ,cM,rfl⟩:=z9 j g.roots[j] (by simp)
   have a2:=bn BU
   have zm:=(Ja.objs r2 cq (by simp)).trans fZ
   rw[wX BU]at BV
   generalize g.roots[j]=u at*
   unfold bF at cM
   repeat'(first|(apply ak<;>intro)|((with_reducible show Qs _ _ _ _ _);refine ai _ _ _ _ ?_)|simp(disch:=omega)only[↓aa,ab,simprocAttr,sa,wL,wat, *])
   all_goals try omega
   refine uu hI hy BV aA nX7 ?_ ?_
   ·intro X' h1 h2
    have lY:=h2.lo;have nY:=h2.ag
    simp(disch:=omega)only[sm,sl]at lY nY
    clear h2
    simp(disch:=omega)only[↓aa,ab,simprocAttr,sa, *]
    refine hQ _ _ _ ?_ ⟨j+1,rfl,?_,?_,trivial,trivial,by omega,h1⟩<;>exact aJ
   ·intro X' h1
    repeat'(first|((with_reducible show Qs _ _ _ _ _);refine aG _ _ _ ?_)|simp(disch:=omega)only[↓aa,ab,simprocAttr,sa, *])
    first|exact .inr h1|exact .inr trivial
  ·have ej:j=g.roots.length:=by omega
   rw[ej,wbF]at BV
   repeat'(first|(apply ak<;>intro)|((with_reducible show Qs _ _ _ _ _);refine ai _ _ _ _ ?_)|simp(disch:=omega)only[↓aa,ab,simprocAttr,sa,wL,wat, *])
   all_goals try omega
   first|exact .inl BV|exact .inl trivial
theorem zgh:E.fn.get 206=some Tryz.f206:=kq
theorem PS(H:Heap)(an:H.lo≤H.next){x z:Value}{g:Gr}(hG:eg H x z g)(hg:jT g):af E (aK 206) [.agg #[x,z]] H fun r H'=>r= .bool true∧aq H H':=by
 have cS:=fun(X:Heap) (hx:X.lo≤X.next) (k:Ko H X) (v:bu) (hv:ny g.nodes.length v)=>zgd X hx (hG.ko k) v hv
 have cV:=fun(X:Heap) (hx:X.lo≤X.next) (k:Ko H X)=>zge X hx (hG.ko k)
 have nz:=hG
 have hA:∀ u∈EZ g,ny g.nodes.length u:=fun u hu=>by
  rcases waI.1 hu with hu|hu
  ·obtain⟨n,hn,hu⟩:=List.mem_flatMap.1 hu
   exact(hg.node n hn).2.2.2.2 u hu
  ·exact hg.root u hu
 obtain⟨⟨⟨na,nc,rfl,⟨CL,hn⟩,bs⟩,_⟩,⟨⟨ra,rc,rfl,⟨hrc,iQ⟩,z9⟩,_⟩⟩:=hG
 refine D7 kq zgh rfl rfl ?_
 simp only[Tryz.f206]
 simp(disch:=omega)only[↓aa,ab,simprocAttr,sa,wL,waw, *]
 refine bP H [1,2,7,8,9,36] (fun T1 H1 u1 k1 n1 l1 g1=>?_) aj
 try simp(disch:=omega)only[sm,sl]at n1 l1 g1
 simp only[sq,simprocAttr]at u1
 refine bL kq (fun nn T X=>∃ i:Nat,nn=g.nodes.length-i∧(T.get 9=some (.int .i64 i))∧(T.get 1=T1.get 1∧T.get 2=T1.get 2∧T.get 7=T1.get 7∧T.get 8=T1.get 8∧T.get 36=T1.get 36)∧Ko H1 X∧X.lo=H1.lo∧(i≤g.nodes.length)) ?_ ?_
 ·refine⟨_,0,rfl,?_,?_,Ko.refl _,rfl,wJ _⟩<;>exact aJ
 rintro nn dA X1 ⟨i,rfl,m1,w1,kx1,eQ,hi⟩ Qs hQ aG ai
 have bz:=k1.trans kx1;have dZ:=kx1.ag;have ed:=kx1.objs
 have b1:=ed H.next (by omega)
 have b2:=ed (H.next+1) (by omega)
 rw[g1]at b1 b2
 by_cases hlt:i<g.nodes.length
 ·obtain⟨r,o,cells,gg,tt,part,rfl,hr,aC,aR,f,w,rfl,hf,hw⟩:=bs i g.nodes[i] (by simp)
  have a1:=bn hlt
  have e1:=bz.objs r hr
  have ho:=hg.node g.nodes[i] (wam hlt)
  generalize g.nodes[i]=n at*
  obtain⟨o1,o2,o3,o4,o5⟩:=ho
  obtain⟨⟨fa,fc,rfl,⟨_,fm⟩,_⟩,_⟩:=hf
  obtain⟨⟨wa,wc,rfl,⟨_,wm⟩,_⟩,_⟩:=hw
  repeat'(first|(apply ak<;>intro)|apply bw|((with_reducible show Qs _ _ _ _ _);refine ai _ _ _ _ ?_)|simp(disch:=omega)only[↓aa,ab,simprocAttr,sa,wL,waw, *])
  all_goals first|(refine hQ _ _ _ ?_ ⟨i+1,rfl,?_,?_,?_,?_,by omega⟩<;>exact aJ)|omega|trace_state
 ·repeat'(first|(apply ak<;>intro)|((with_reducible show Qs _ _ _ _ _);refine ai _ _ _ _ ?_)|simp(disch:=omega)only[↓aa,ab,simprocAttr,sa,wL,waw, *])
  all_goals try omega
  have eX:X1.objs.get H.next=some (.row [.slice na g.nodes.length nc,.slice ra g.roots.length rc] none true):=by
   rw[b1]
   simp(disch:=omega)only[ay,aN,az,aF,aE,aB,aM,aO,aQ,aP,aL,aD,aH,au,sl, *]
  have eR:∃ c,X1.objs.get (H.next+1)=some (.row [c] none true):=by
   refine⟨.bool false,?_⟩
   rw[b2]
   simp(disch:=omega)only[ay,aN,az,aF,aE,aB,aM,aO,aQ,aP,aL,aD,aH,au,sl, *]
  refine(cV _ ah aj).mono ?_
  rintro rr H3 ⟨rfl,b3,n3,s3⟩
  have k3:Ko H H3:=Ko.call aj s3
  have l3:=s3.lo
  have nn3:=s3.ag
  have f1:=(s3.objs H.next (by omega)).trans eX
  obtain⟨c0,eR⟩:=eR
  have f2:=(s3.objs (H.next+1) (by omega)).trans eR
  have hG3:=nz.ko k3
  clear b1 b2 eX eR cV s3
  refine Du (enc:=cZ) (xs:=EZ g) (g:=289) (first:= #[]) (cap:= #[ptr X1.next 0])
   (J:=fun rest X=>∀ u∈rest,ny g.nodes.length u) (R:=fun X=>False) (ex:=[]) ?_ (by omega) ?_ ?_ (fun _ _=>by kernel_rfl) (fun _ _ _=>by kernel_rfl) ?_ ?_ ?_ ?_ ?_ ?_ ?_ ?_
  ·intro x hx;cases hx
  ·simp(disch:=omega)only[↓aa,ab,simprocAttr]
  ·exact wap rfl
  ·intro rest X X' h _ _;exact h
  ·intro rest X X' h _;exact h
  ·intro X X' h _;exact h
  ·intro X _ _;exact hA
  ·intro y I F H4 sH jJ hI hB hy h0
   exact zgg H3 (by omega) X1.next b3 (by omega) hG3 y I F H4 sH jJ hI hB hy h0
  ·intro v rest X hJ rb
   have lX:=rb.lo;have nX:=rb.ag
   have q1:=(rb.objs H.next (by omega) (by simp)).trans f1
   have kX:=rb.ko k3 (fun x hx=>by cases hx)
   have nH:=kX.ag
   simp only[cZ]
   simp(disch:=omega)only[↓aa,ab,simprocAttr,sa, *]
   refine⟨aA,fun X2 of=>?_⟩
   have gk:Ko H X2:=⟨by have:=of.next;simp(disch:=omega)only[sm,sl]at this;omega,fun x hx=>(of.objs x (by omega)).trans (by simp(disch:=omega)only[ay,aN,az,aF,aE,aB,aM,aO,aQ,aP,aL,aD,aH,au,sl];exact kX.objs x hx),fun x hx=>by rw[of.grps];simp(disch:=omega)only[ay,aN,az,aF,aE,aB,aM,aO,aQ,aP,aL,aD,aH,au,sl];exact kX.grps x hx⟩
   have o1:=of.next;have o2:=of.lo
   have o3:=of.objs X.next (by omega)
   have o4:=of.objs H.next (by omega)
   simp(disch:=omega)only[sm,sl]at o1 o2 o3 o4
   clear of
   have PT:=fun(X:Heap) (hx:X.lo≤X.next) (k:Ko H X)=>cS X hx k v (hJ v (wW ..))
   unfold cZ at PT
   repeat'(first|((with_reducible show af _ _ _ _ _);refine ao X2 (PT _ ah aj) ?_;intro H2 k2 l2 n2 g2 q2;try simp(disch:=omega)only[sm,sl]at l2 n2 g2 q2)|simp(disch:=omega)only[↓aa,ab,simprocAttr,sa, *])
   exact⟨(k2.same (by omega)).yd (by omega),.inl fun u hu=>hJ u (wM _ hu)⟩
  ·intro X h rb
   have lX:=rb.lo;have nX:=rb.ag
   have dX:=rb.vq
   have q2:=(rb.objs (H.next+1) (by omega) (by simp)).trans f2
   have kX:=rb.ko k3 (fun x hx=>by cases hx)
   have nH:=kX.ag
   simp(disch:=omega)only[↓aa,ab,simprocAttr,sa, *]
   have d1:(X.setRow (H.next+1) [Value.bool true]).objs.get (X1.next+1)=some .defers:=by
    rw[ay,au (by omega),wS,←n3];exact dX
   refine⟨_,Be d1 (by omega),?_⟩
   have d2:=ui (X.setRow (H.next+1) [Value.bool true]).objs (X1.next+1) (H.next+1) (by omega)
   have d3:(X.setRow (H.next+1) [Value.bool true]).objs.get (H.next+1)=some (.row [.bool true] none true):=by rw[ay,cr rfl];rfl
   rw[d3]at d2
   simp(disch:=omega)only[↓aa,ab,simprocAttr,sa, *]
   exact Bv (X:=X.setRow (H.next+1) [Value.bool true]) aj (by omega) rfl rfl
  ·intro X h;exact h.elim
theorem zgm(H:Heap)(an:H.lo≤H.next)(k:Int)(f w:Value)(n:Gn)(hf:SLr cQ 2 H f n.fields)(hw:SLr RW 1 H w n.bC)(h1:n.fields.length≤100000)(h2:n.bC.length≤100000):af E (aK 30) [.agg #[.int .i64 k,f,w]] H fun r H'=>r= .int .i64 (1+n.fields.length+n.bC.length)∧aq H H':=by
 obtain⟨⟨fa,fc,rfl,⟨_,fm⟩,_⟩,_⟩:=hf
 obtain⟨⟨wa,wc,rfl,⟨_,wm⟩,_⟩,_⟩:=hw
 refine aV Tryz.f30 ?_
 simp only[Tryz.f30]
 simp(disch:=omega)only[↓aa,ab,simprocAttr,sa, *]
 all_goals exact bq
theorem zgn(H:Heap)(an:H.lo≤H.next)(f w f2 w2:Value)(n m:Gn)(hf:SLr cQ 2 H f n.fields)(hw:SLr RW 1 H w n.bC)(BW:SLr cQ 2 H f2 m.fields)(BX:SLr RW 1 H w2 m.bC):af E (aK 181) [.agg #[.int .i64 n.kind,f,w],.agg #[.int .i64 m.kind,f2,w2]] H fun r H'=>r= .bool (decide (n=m))∧aq H H':=by
 have c1:=fun(X:Heap) (hx:X.lo≤X.next) (k:Ko H X)=>PU X hx _ _ _ _ (hf.ko cQ.mono k) (BW.ko cQ.mono k)
 have c2:=fun(X:Heap) (hx:X.lo≤X.next) (k:Ko H X)=>zgk X hx _ _ _ _ (hw.ko RW.mono k) (BX.ko RW.mono k)
 obtain⟨⟨fa,fc,rfl,⟨_,fm⟩,_⟩,_⟩:=hf
 obtain⟨⟨wa,wc,rfl,⟨_,wm⟩,_⟩,_⟩:=hw
 obtain⟨⟨fa2,fc2,rfl,⟨_,fm2⟩,_⟩,_⟩:=BW
 obtain⟨⟨PV,E1,rfl,⟨_,wm2⟩,_⟩,_⟩:=BX
 have uB:n=m↔n.kind=m.kind∧n.fields=m.fields∧n.bC=m.bC:=⟨fun e=>by subst e;exact⟨rfl,rfl,rfl⟩,fun e=>by cases n;cases m;simp only at e;rw[e.1,e.2.1,e.2.2]⟩
 have hD:decide (n=m)=(decide (n.kind=m.kind)&&decide (n.fields=m.fields)&&decide (n.bC=m.bC)):=by
  rw[waU,waL,uB]
  simp only[wA,waL,and_assoc]
 rw[hD]
 clear hD uB
 refine aV Tryz.f181 ?_
 simp only[Tryz.f181]
 cases hk:decide (n.kind=m.kind)with
 |false=>
  simp(disch:=omega)only[↓aa,ab,simprocAttr,sa, *]
  all_goals exact bq
 |true=>
  cases hv:decide (n.fields=m.fields)with
  |false=>
   repeat'(first|((with_reducible show af _ _ _ _ _);refine ao H (c1 _ ah aj) ?_;intro H2 k2 l2 n2 g2 q2;try simp(disch:=omega)only[sm,sl]at l2 n2 g2 q2)|simp(disch:=omega)only[↓aa,ab,simprocAttr,sa, *])
   all_goals exact bq
  |true=>
   repeat'(first|((with_reducible show af _ _ _ _ _);(first|refine ao H (c1 _ ah aj) ?_|refine ao H (c2 _ ah aj) ?_);intro H2 k2 l2 n2 g2 q2;try simp(disch:=omega)only[sm,sl]at l2 n2 g2 q2)|simp(disch:=omega)only[↓aa,ab,simprocAttr,sa, *])
   all_goals exact bq
end Go.AM
