/-
  Walks over letters of the functions that the law reaches; written small by a program of mine.
-/
import Derived.Test.YtjgppeeplkidpaaGreatGYA
set_option linter.unusedVariables false
set_option linter.unusedSectionVars false
namespace Go.AM
attribute [local instance] fnMaps
open Go Go.Proofs
set_option maxRecDepth 100000
set_option maxHeartbeats 4000000
set_option linter.unusedSimpArgs false
theorem P4(l:List Int)(i:Nat)(h:i<l.length):(l.map cx)[i]? =some (.int .i64 l[i]):=by rw[war,wj h];rfl
theorem zgz(l:List Int)(i:Nat)(x:Int):(l.map cx).set i (.int .i64 x)=(l.set i x).map cx:=by rw[List.map_set];rfl
theorem Jg(l:List Int){i:Nat}(h:i<l.length)(x:Int):over [.int .i64 x] i (l.map cx)=(l.set i x).map cx:=by rw[KQ _ _ _ (by rw[wO];exact h),zgz]
def oS(l:List Int):Nat:=l.countP (· == -1)
theorem P5{l:List Int}:∀ {i:Nat} {x:Int},l[i]? =some (-1)→x≠ -1→oS (l.set i x)+1=oS l:=by
 induction l with
 |nil=>intro i x h;simp at h
 |cons y l ih=>
  intro i x h hx
  cases i with
  |zero=>
   simp only[wQ,wi]at h
   subst h
   unfold oS
   rw[List.set_cons_zero,wcf,wcf]
   simp[hx]
  |succ i=>
   have:=ih (i:=i) (x:=x) (by simpa using h) hx
   unfold oS at*
   rw[List.set_cons_succ,wcf,wcf]
   omega
theorem P6:∀ {l m:List Int},l.length=m.length→(∀(i:Nat) x,l[i]? =some x→m[i]? =some (-1)→x= -1)→oS m≤oS l
 |[],m,h,_=>by
  have:m=[]:=wac h.symm
  subst this;exact wy _
 |x::l,[],h,_=>by simp at h
 |x::l,y::m,h,hh=>by
  have h1:=P6 (l:=l) (m:=m) (by simpa using h) fun i z h1 h2=>hh (i+1) z (by simpa using h1) (by simpa using h2)
  unfold oS at*
  rw[wcf,wcf]
  by_cases hy:y= -1
  ·have hx:=hh 0 x rfl (by rw[hy];rfl)
   subst hx hy
   omega
  ·have:(y== -1)=false:=by simpa using hy
   rw[this]
   simp only[wG,waa]
   split<;>omega
theorem zgA{a b:Gr}{To At To' At':List Int}(h:mq a b To At)(h':mq a b To' At')(he:∀ i k,RT To i k→RT To' i k):oS To'≤oS To:=by
 refine P6 (by rw[h.tl,h'.tl]) fun i x h1 h2=>?_
 rcases h.to i x h1 with q|⟨k,q⟩
 ·exact q
 ·subst q
  have:=he i k h1
  unfold RT at this
  rw[h2]at this
  simp only[wi]at this
  omega
structure MH(H0 H:Heap)(m rt ra:Nat)(x1 x2 y1 y2:Value)(To At:List Int)(bad:Bool):Prop where
 row:H.objs.get m=some (.row [x1,x2,y1,y2,.slice (some ⟨rt,0,none⟩) To.length To.length,.slice (some ⟨ra,0,none⟩) At.length At.length,.bool bad] none true)
 to:H.objs.get rt=some (.row (To.map cx) none true)
 ae:H.objs.get ra=some (.row (At.map cx) none true)
 ko:Ko H0 H
 eq:H.lo=H0.lo
 lo:H0.next≤m∧H0.next≤rt∧H0.next≤ra
 lt:m<H.next∧rt<H.next∧ra<H.next
 ne:m≠rt∧m≠ra∧rt≠ra
section
variable{H0:Heap}{m rt ra:Nat}{x1 x2 y1 y2:Value}{a b:Gr}
def Jh(H0:Heap)(m rt ra:Nat)(x1 x2 y1 y2:Value)(a b:Gr)(n:Nat):Prop:=∀ (H:Heap) (To At:List Int) (xv yv:Value) (xs ys:List bu),MH H0 H m rt ra x1 x2 y1 y2 To At false→mq a b To At→oS To≤n→SLr cQ 2 H0 xv xs→SLr cQ 2 H0 yv ys→xx a.nodes.length xs→xx b.nodes.length ys→
 af E (aK 81) [ptr m 0,xv,yv] H fun r H'=>r= .tuple #[]∧H.next≤H'.next∧∃ To' At' bad,MH H0 H' m rt ra x1 x2 y1 y2 To' At' bad∧kK a b To At xs ys To' At' bad
def P7(H0:Heap)(m rt ra:Nat)(x1 x2 y1 y2:Value)(a b:Gr)(n:Nat):Prop:=∀ (H:Heap) (To At:List Int) (i k:Nat),MH H0 H m rt ra x1 x2 y1 y2 To At false→mq a b To At→oS To≤n→i<a.nodes.length→k<b.nodes.length→
 af E (aK 124) [ptr m 0,.int .i64 i,.int .i64 k] H fun r H'=>r= .tuple #[]∧H.next≤H'.next∧∃ To' At' bad,MH H0 H' m rt ra x1 x2 y1 y2 To' At' bad∧xy a b To At i k To' At' bad
theorem P8(an:H0.lo≤H0.next)(hA:eg H0 x1 x2 a)(hB:eg H0 y1 y2 b)(pI:kL a)(vN:kL b)(n:Nat)(hv:∀ k,k+1=n→Jh H0 m rt ra x1 x2 y1 y2 a b k):P7 H0 m rt ra x1 x2 y1 y2 a b n:=by
 intro H To At i k hM hI hc hi hk
 obtain⟨aC,oh,lR,oT,ig,⟨l1,l2,l3⟩,⟨t1,t2,t3⟩,n1,n2,n3⟩:=hM
 have tl:=hI.tl
 have al:=hI.al
 have iT:i<To.length:=by omega
 have kA:k<At.length:=by omega
 have a1:=bn iT
 have a2:=bn kA
 have g1:=P4 To i iT
 have g2:=P4 At k kA
 have nH:=oT.ag
 have e1:To[i]? =some To[i]:=wj iT
 have e2:At[k]? =some At[k]:=wj kA
 have d1:=hI.to i _ e1
 have d2:=hI.ae k _ e2
 have hb:=hI.both i k
 have hM:MH H0 H m rt ra x1 x2 y1 y2 To At false:=⟨aC,oh,lR,oT,ig,⟨l1,l2,l3⟩,⟨t1,t2,t3⟩,n1,n2,n3⟩
 clear tl al
 refine aV Tryz.f124 ?_
 simp only[Tryz.f124]
 by_cases hr:RT To i k
 ·have cq:=hb.1 hr
  have hp:=zgB hI hr
  unfold RT at hr
  rw[e1,wi]at hr
  rw[e2,wi]at cq
  rw[hr]at g1
  rw[cq]at g2
  have q1:decide ((k:Int)=(k:Int))=true:=wz rfl
  have q2:decide ((i:Int)=(i:Int))=true:=wz rfl
  clear hb d1 d2 e1 e2 hv hr cq hI
  simp(disch:=omega)only[↓aa,ab,simprocAttr,sa, *]
  all_goals first|exact⟨wy _,_,_,_,hM,hp⟩|omega|trace_state
 have aX:decide (To[i]=(k:Int))=false:=wx fun e=>hr (by unfold RT;rw[e1,e])
 have pW:MH H0 (H.setRow m [x1,x2,y1,y2,.slice (some ⟨rt,0,none⟩) To.length To.length,.slice (some ⟨ra,0,none⟩) At.length At.length,.bool true]) m rt ra x1 x2 y1 y2 To At true:=
  ⟨by rw[ay,cr rfl];rfl,by rw[ay,au (wbl n1)];exact oh,by rw[ay,au (wbl n2)];exact lR,oT.setRow (by omega) _,by rw[aB];exact ig,⟨l1,l2,l3⟩,⟨t1,t2,t3⟩,n1,n2,n3⟩
 by_cases uA:0≤To[i]
 ·have vZ:decide (0≤To[i])=true:=wz uA
  have hp:=P9 hI hr (.inl (d1.elim (fun q=>absurd uA (by omega)) fun⟨k',q⟩=>⟨k',by unfold RT;rw[e1,q]⟩))
  generalize To[i]=z1 at*
  clear hb d1 d2 e1 e2 hv hI hr uA
  simp(disch:=omega)only[↓aa,ab,simprocAttr,sa, *]
  all_goals first|exact⟨wy _,_,_,_,pW,hp⟩|omega|trace_state
 have vZ:decide (0≤To[i])=false:=wx uA
 by_cases qC:0≤At[k]
 ·have BB:decide (0≤At[k])=true:=wz qC
  have hp:=P9 hI hr (.inr (d2.elim (fun q=>absurd qC (by omega)) fun⟨i',q⟩=>⟨i',by rw[e2,q]⟩))
  generalize To[i]=z1 at*
  generalize At[k]=z2 at*
  clear hb d1 d2 e1 e2 hv hI hr uA qC
  simp(disch:=omega)only[↓aa,ab,simprocAttr,sa, *]
  all_goals first|exact⟨wy _,_,_,_,pW,hp⟩|omega|trace_state
 have BB:decide (0≤At[k])=false:=wx qC
 have f1:To[i]= -1:=d1.resolve_right fun⟨k',q⟩=>uA (by omega)
 have f2:At[k]= -1:=d2.resolve_right fun⟨k',q⟩=>qC (by omega)
 rw[f1]at e1
 rw[f2]at e2
 obtain⟨n',rfl⟩:∃ n',n=n'+1:=by
  have:=P5 (x:=(k:Int)) e1 (by omega)
  exact⟨n-1,by omega⟩
 have y5:=hv n' rfl
 clear hv
 have hcn:=P5 (x:=(k:Int)) e1 (by omega)
 have nW:=(Ji hI e1 e2).1
 obtain⟨⟨⟨na,nc,rfl,⟨_,hn⟩,bs⟩,PR⟩,A9⟩:=hA
 obtain⟨⟨⟨nb,nd,rfl,⟨_,hm⟩,fh⟩,zi9⟩,zja⟩:=hB
 obtain⟨r,o,cells,gg,tt,part,rfl,gS,zgC,aR,xf,xw,rfl,hxf,hxw⟩:=bs i a.nodes[i] (by simp[hi])
 obtain⟨r2,o2,gy,jP,jQ,jR,rfl,cq,fZ,cM,yf,yw,rfl,hyf,hyw⟩:=fh k b.nodes[k] (by simp[hk])
 have hx:a.nodes[i]? =some a.nodes[i]:=wj hi
 have hy:b.nodes[k]? =some b.nodes[k]:=wj hk
 have hxR:=pI.node a.nodes[i] (wam hi)
 have hyR:=vN.node b.nodes[k] (wam hk)
 have s1:=oT.objs r gS
 have s2:=oT.objs r2 cq
 have b1:=bn hi
 have b2:=bn hk
 generalize To[i]=z1 at*
 generalize At[k]=z2 at*
 generalize a.nodes[i]=x at*
 generalize b.nodes[k]=y at*
 subst f1 f2
 clear hb d1 d2 hr uA qC pW bs fh
 have w1:=Jg To iT (k:Int)
 have w2:=Jg At kA (i:Int)
 have w3:decide (i+1≤(To.map cx).length)=true:=wz (by rw[wO];omega)
 have w4:decide (k+1≤(At.map cx).length)=true:=wz (by rw[wO];omega)
 have hl1:(To.set i (k:Int)).length=To.length:=wcn
 have jz:(At.set k (i:Int)).length=At.length:=wcn
 obtain⟨⟨xfa,xfc,rfl,⟨_,xfm⟩,xfl⟩,xfr⟩:=hxf
 obtain⟨⟨yfa,yfc,rfl,⟨_,yfm⟩,yfl⟩,yfr⟩:=hyf
 obtain⟨⟨xwa,xwc,rfl,⟨_,xwm⟩,xwl⟩,xwr⟩:=hxw
 obtain⟨⟨ywa,ywc,rfl,⟨_,ywm⟩,ywl⟩,ywr⟩:=hyw
 have hl3:(To.set i (k:Int)).length=To.length:=hl1
 have key:∀ (X:Heap) (bad:Bool),Ko ((H.setRow rt ((To.set i (k:Int)).map cx)).setRow ra ((At.set k (i:Int)).map cx)) X→X.lo=H.lo→(X.objs.get m=some (.row [.slice (some ⟨r,o,none⟩) a.nodes.length nc,x2,.slice (some ⟨r2,o2,none⟩) b.nodes.length nd,y2,.slice (some ⟨rt,0,none⟩) To.length To.length,.slice (some ⟨ra,0,none⟩) At.length At.length,.bool bad] none true)→MH H0 X m rt ra (.slice (some ⟨r,o,none⟩) a.nodes.length nc) x2 (.slice (some ⟨r2,o2,none⟩) b.nodes.length nd) y2 (To.set i (k:Int)) (At.set k (i:Int)) bad)∧MH H0 (X.setRow m [.slice (some ⟨r,o,none⟩) a.nodes.length nc,x2,.slice (some ⟨r2,o2,none⟩) b.nodes.length nd,y2,.slice (some ⟨rt,0,none⟩) To.length To.length,.slice (some ⟨ra,0,none⟩) At.length At.length,.bool bad]) m rt ra (.slice (some ⟨r,o,none⟩) a.nodes.length nc) x2 (.slice (some ⟨r2,o2,none⟩) b.nodes.length nd) y2 (To.set i (k:Int)) (At.set k (i:Int)) bad:=fun X bad kX lX=>by
  have q1:X.objs.get rt=some (.row ((To.set i (k:Int)).map cx) none true):=by
   rw[kX.objs rt (by exact t2),ay,au n3,wS,ay,cr rfl];rfl
  have q2:X.objs.get ra=some (.row ((At.set k (i:Int)).map cx) none true):=by
   rw[kX.objs ra (by exact t3),ay,cr rfl];rfl
  have q3:Ko H0 X:=((oT.setRow (by omega) _).setRow (by omega) _).trans kX
  have q4:H.next≤X.next:=kX.ag
  refine⟨fun h=>⟨by rw[hl1,jz];exact h,q1,q2,q3,lX.trans ig,⟨l1,l2,l3⟩,⟨by omega,by omega,by omega⟩,n1,n2,n3⟩,⟨by rw[ay,cr rfl,hl1,jz];rfl,by rw[ay,au (wbl n1)];exact q1,by rw[ay,au (wbl n2)];exact q2,q3.setRow (by omega) _,by rw[aB];exact lX.trans ig,⟨l1,l2,l3⟩,⟨by rw[aF];omega,by rw[aF];omega,by rw[aF];omega⟩,n1,n2,n3⟩⟩
 by_cases xz:x.kind=y.kind
 ·have jY:decide (x.kind=y.kind)=true:=wz xz
  have c1:=fun(X:Heap) (hx:X.lo≤X.next) (k:Ko H0 X)=>zgl X hx _ _ _ _ (SLr.ko RW.mono ⟨⟨xwa,xwc,rfl,⟨by assumption,xwm⟩,xwl⟩,xwr⟩ k) (SLr.ko RW.mono ⟨⟨ywa,ywc,rfl,⟨by assumption,ywm⟩,ywl⟩,ywr⟩ k)
  by_cases hw:x.bC=y.bC
  ·have hp:=fun To' At' bad=>zgD (To':=To') (At':=At') (bad:=bad) hI e1 e2 hx hy xz hw
   have kB:decide (x.bC=y.bC)=true:=wz hw
   clear xz hM hw
   repeat'(first|refine aw 5 [Fx,Fx,Fx,Fx,Fx,Fx,Fx,Fx,Fx,Fx,Fx,Fx,Fx,Fx,Fx,Fx,Fx,Fx,(false,[12,15],[]),Fx] ?_|((with_reducible show af _ _ _ _ _);refine CS (H0:=((H.setRow rt ((To.set i (k:Int)).map cx)).setRow ra ((At.set k (i:Int)).map cx))) aj (c1 _ ah aj) ?_;intro H2 k2 l2 n2 g2 q2;try simp(disch:=omega)only[sm,sl]at l2 n2 g2 q2)|simp(disch:=omega)only[↓aa,ab,simprocAttr,sa, *])
   have ov:=(key H2 false k2 (by first|omega|(simp only[aB,aE]at l2;omega))).1 (by first|(rw[g2 m (by omega)];simp(disch:=omega)only[ay,aN,az,aF,aE,aB,aM,aO,aQ,aP,aL,aD,aH,au,sl, *])|trace_state)
   refine(y5 H2 _ _ _ _ _ _ ov nW (by omega) ⟨⟨_,_,rfl,⟨by assumption,xfm⟩,xfl⟩,xfr⟩ ⟨⟨_,_,rfl,⟨by assumption,yfm⟩,yfl⟩,yfr⟩ hxR hyR).mono ?_
   rintro _ Y ⟨rfl,nY,T',A',bd,hM',hV'⟩
   exact⟨by omega,_,_,_,hM',hp _ _ _ hV'⟩
  ·have hp:=Qa hI e1 e2 hx hy (.inr hw)
   have kB:decide (x.bC=y.bC)=false:=wx hw
   clear xz y5 hM hw
   repeat'(first|refine aw 5 [Fx,Fx,Fx,Fx,Fx,Fx,Fx,Fx,Fx,Fx,Fx,Fx,Fx,Fx,Fx,Fx,Fx,Fx,(false,[12,15],[]),Fx] ?_|((with_reducible show af _ _ _ _ _);refine CS (H0:=((H.setRow rt ((To.set i (k:Int)).map cx)).setRow ra ((At.set k (i:Int)).map cx))) aj (c1 _ ah aj) ?_;intro H2 k2 l2 n2 g2 q2;try simp(disch:=omega)only[sm,sl]at l2 n2 g2 q2)|simp(disch:=omega)only[↓aa,ab,simprocAttr,sa, *])
   refine⟨by omega,_,_,_,(key H2 true k2 ?_).2,hp⟩
   first|omega|(simp only[aB,aE]at l2;omega)
 ·have hp:=Qa hI e1 e2 hx hy (.inl xz)
  have jY:decide (x.kind=y.kind)=false:=wx xz
  clear xz y5 hM
  repeat'(first|refine aw 5 [Fx,Fx,Fx,Fx,Fx,Fx,Fx,Fx,Fx,Fx,Fx,Fx,Fx,Fx,Fx,Fx,Fx,Fx,(false,[12,15],[]),Fx] ?_|simp(disch:=omega)only[↓aa,ab,simprocAttr,sa, *])
  refine⟨by omega,_,_,_,(key _ _ ?_ ?_).2,hp⟩
  ·exact aj
  ·first|rfl|simp only[aB,aE]
end
end Go.AM
