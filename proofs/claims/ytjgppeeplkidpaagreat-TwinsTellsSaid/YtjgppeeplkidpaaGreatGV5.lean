/-
  Walks over letters of the functions that the law reaches; written small by a program of mine.
-/
import Derived.Test.YtjgppeeplkidpaaGreatGV4
set_option linter.unusedVariables false
set_option linter.unusedSectionVars false
namespace Go.AM
attribute [local instance] fnMaps
open Go Go.Proofs
set_option maxRecDepth 100000
set_option maxHeartbeats 4000000
set_option linter.unusedSimpArgs false
structure rp(b:Nat)(H H':Heap):Prop where
 lo:H'.lo=H.lo
 ag:H.next≤H'.next
 below:∀ x,x<b→H'.objs.get x=H.objs.get x∧H'.grps.get x=H.grps.get x
theorem rp.trans{b:Nat}{H X Y:Heap}(h:rp b H X)(h':rp b X Y):rp b H Y:=⟨h'.lo.trans h.lo,wK h.ag h'.ag,fun x hx=>⟨(h'.below x hx).1.trans (h.below x hx).1,(h'.below x hx).2.trans (h.below x hx).2⟩⟩
theorem aq.EV{b:Nat}{H X:Heap}(h:aq H X)(hb:b≤H.next):rp b H X:=⟨h.lo,h.ag,fun x hx=>⟨h.objs x (by omega),h.grps x (by omega)⟩⟩
theorem im.EV{b g:Nat}{H X:Heap}(h:im b g H X):rp b H X:=⟨h.lo,h.ag,h.below⟩
theorem rp.same{H0 H X:Heap}(h:rp H0.next H X)(s:aq H0 H):aq H0 X:=⟨h.lo.trans s.lo,wK s.ag h.ag,fun x hx=>(h.below x hx).1.trans (s.objs x hx),fun x hx=>(h.below x hx).2.trans (s.grps x hx)⟩
theorem zfR{out:List Span}{y:Span}(h:out.getLast? =some y):∃ m,out.length=m+1∧out[m]? =some y∧out=out.take m++[y]∧out.dropLast=out.take m:=by
 obtain⟨l,rfl⟩:=List.getLast?_eq_some_iff.1 h
 exact⟨l.length,by simp,by simp,by simp,by simp⟩
theorem zfS(l:List Span)(y:Span)(s:Int):over [Value.int .i64 s] (l.length*2+1) ((l++[y]).flatMap b9)=(l++[(⟨y.ae,s⟩:Span)]).flatMap b9:=by
 have h1:=sP l
 rw[KQ _ _ _ (by rw[sP,wN,wbJ];omega),wbd,wbd,List.set_append_right _ _ (by omega),h1,show l.length*2+1-l.length*2=1 by omega]
 rfl
theorem zfT(H:Heap)(an:H.lo≤H.next){b:Nat}{v:Value}{out:List Span}{go:Option Nat}(h:OS b 2 H v out.length (out.flatMap b9) go)(hb:b≤H.next)(yy:H.lo≤b)(f t:Int)(hn:out.length≤10000)(hf:0≤f∧f≤1099511627776∧0≤t∧t≤1099511627776)(hs:∀ y∈out,0≤y.ae∧y.ae≤1099511627776∧ -1099511627776≤y.size∧y.size≤1099511627776):
  af E (aK 236) [v,.int .i64 f,.int .i64 t] H fun r H'=>∃ IX,OS b 2 H' r (kE out f t).length ((kE out f t).flatMap b9) IX∧rp b H H':=by
 have cK:=(h.same (eO [.int .i64 f,.int .i64 (t-f)])).app (bytes:=16) (part:=[.int .i64 f,.int .i64 (t-f)]) (by simp(disch:=omega)only[ay,aN,az,aF,aE,aB,aM,aO,aQ,aP,aL,aD,aH,au,sl];omega) (by simp(disch:=omega)only[ay,aN,az,aF,aE,aB,aM,aO,aQ,aP,aL,aD,aH,au,sl];omega) rfl rfl (rn (by omega))
 obtain⟨v',H',g',ha,bJ,mF,_⟩:=cK
 have rS:rp b H H':=((eO _).EV hb).trans mF.EV
 have qv:OS b 2 H' v' (out++[(⟨f,t-f⟩:Span)]).length ((out++[(⟨f,t-f⟩:Span)]).flatMap b9) (some g'):=by
  rw[wN,wbJ,wbd]
  exact bJ
 refine aV Tryz.f236 ?_
 simp only[Tryz.f236]
 cases hl:out.getLast? with
 |none=>
  have e0:out=[]:=List.getLast?_eq_none_iff.1 hl
  subst e0
  have hp:kE [] f t=[⟨f,t-f⟩]:=rfl
  have hva:∃ a c,v= .slice a 0 c:=by
   cases go with
   |none=>exact⟨none,0,h.1⟩
   |some g=>obtain⟨r,cap,_,_,e,_⟩:=h;exact⟨_,_,e⟩
  obtain⟨a,c,rfl⟩:=hva
  repeat'(first|refine aw 2 [Fx,Fx,Fx,Fx,Fx,Fx,Fx,Fx,Fx,Fx,Fx,Fx,Fx,Fx,Fx,Fx,Fx,Fx,Fx] ?_|simp(disch:=omega)only[↓aa,ab,simprocAttr,sa,cw,dW,nw,waA, *])
  all_goals try omega
  first|exact⟨some g',qv,rS⟩|exact⟨some g',qv⟩
 |some y=>
  obtain⟨m,hm,hy,tV,zh⟩:=zfR hl
  have DV:=hs y (wag hy)
  cases go with
  |none=>have:=h.2.1;omega
  |some g=>
   have h0:=h
   obtain⟨r,cap,full,aT,rfl,h2,h3,h4,h5,h6,h7,h8,h9,aZ,aY,bH⟩:=h
   have qB:=sP out
   have aR:=EI out m y hy
   obtain⟨q1,q2⟩:=qJ aR
   have f1:full[m*2]? =some (.int .i64 y.ae):=by rw[←q1,←h4,wcj (by omega)]
   have f2:full[m*2+1]? =some (.int .i64 y.size):=by rw[←q2,←h4,wcj (by omega)]
   have d1:((m+1:Nat):Int)-1=(m:Int):=by omega
   have a1:=bn (show m<m+1 by omega)
   by_cases ht:y.ae+y.size=f
   ·have hp:kE out f t=out.take m++[⟨y.ae,t-y.ae⟩]:=by
     unfold kE
     rw[hl]
     simp only
     rw[wF ht,zh]
    obtain⟨r',vF,H2,ev,hw,IY,hew⟩:=h0.write (o:=m*2+1) (new:=[.int .i64 (t-y.ae)]) yy rfl (by show m*2+1+1≤_;omega)
    cases ev
    have Ey:over [Value.int .i64 (t-y.ae)] (m*2+1) (out.flatMap b9)=(kE out f t).flatMap b9:=by
     have:=zfS (out.take m) y (t-y.ae)
     rw[wU,waS (by omega),←tV]at this
     rw[this,hp]
    rw[Ey]at IY
    have jb:xY H r (m*2+1) [.int .i64 (t-y.ae)] full g 2 (some aT)=some H2:=by
     rw[←h6,←CT,←h5,←CU]
     exact hw
    have oL:(kE out f t).length=m+1:=by rw[hp,wN,wU];simp;omega
    have d2:decide (y.ae+y.size=f)=true:=wz ht
    clear tV zh hl h4 aR q1 q2 ht
    repeat'(first|(apply ak<;>intro)|refine aw 2 [Fx,Fx,Fx,Fx,Fx,Fx,Fx,Fx,Fx,Fx,Fx,Fx,Fx,Fx,Fx,Fx,Fx,Fx,Fx] ?_|simp(disch:=omega)only[↓aa,ab,simprocAttr,sa,cw,dW,nw, *])
    all_goals try omega
    have zfU:OS b 2 H2 (.slice (some ⟨r,0,none⟩) (m+1) cap) (out.take m++[(⟨y.ae,t-y.ae⟩:Span)]).length ((out.take m++[(⟨y.ae,t-y.ae⟩:Span)]).flatMap b9) (some g):=by
     rw[←hp,oL]
     rw[hm]at IY
     exact IY
    exact⟨some g,zfU,hew.EV⟩
   ·have hp:kE out f t=out++[⟨f,t-f⟩]:=by
     unfold kE
     rw[hl]
     simp only
     rw[wI ht]
    have d2:decide (y.ae+y.size=f)=false:=wx ht
    clear tV zh hl h4 aR q1 q2 ht
    rw[hm]at ha
    repeat'(first|(apply ak<;>intro)|refine aw 2 [Fx,Fx,Fx,Fx,Fx,Fx,Fx,Fx,Fx,Fx,Fx,Fx,Fx,Fx,Fx,Fx,Fx,Fx,Fx] ?_|simp(disch:=omega)only[↓aa,ab,simprocAttr,sa,cw,dW,nw, *])
    all_goals try omega
    first|exact⟨some g',qv,rS⟩|exact⟨some g',qv⟩
theorem BK{α:Type}{R:Heap→List Value→α→Prop}{b z n:Nat}{H:Heap}{v:Value}{cs:List Value}{l:List α}(h:dD b z H v n cs)(hl:l.length=n)(bj:l.length≤9223372036854775807)(hR:cY R z H cs l):SLr R z H v l:=by
 refine⟨h.reads hl bj hR,fun a m c e=>?_⟩
 obtain⟨_,⟨rfl,_⟩|⟨r,rfl,h1,h2,h3⟩⟩:=h
 ·simp only[waq]at e
  exact .inl e.1.symm
 ·simp only[waq]at e
  obtain⟨rfl,_,_⟩:=e
  rcases h3 with h3|⟨g,aT,h3,_⟩
  ·exact .inr ⟨r,_,_,_,rfl,h2,h3⟩
  ·exact .inr ⟨r,_,_,_,rfl,h2,h3⟩
theorem zfV(l:List Value):df l 2=l++l:=by rw[iG,nw]
theorem zfW(l:List Span)(x:Span):eG (l++[x])=eG l++(if bt x then[⟨x.ae,0⟩,⟨x.ae+x.size,0⟩]else[]):=by
 simp[eG,wbd]
def uz(p:Option Int)(l:List Span):Option Int:=match l.getLast? with
 |none=>p
 |some y=>some y.ae
theorem PA(x:Span):∀ (l:List Span) (p:Option Int),eI p (l++[x])=eI p l++(if uz p l=some x.ae then[]else[x.ae])
 |[],p=>by
  rw[wL,eI,eI,eI,waw,wL]
  rfl
 |y::l,p=>by
  have e:uz p (y::l)=uz (some y.ae) l:=by
   unfold uz
   cases l with
   |nil=>rfl
   |cons z l=>
    rw[List.getLast?_cons_cons]
    cases hz:(z::l).getLast? with
    |none=>rw[List.getLast?_eq_none_iff]at hz;cases hz
    |some w=>rfl
  rw[wat,eI,PA x l,eI,e,waP]
theorem mU{n:Nat}(h:n≤100000):eu 1 8 n=true:=by
 unfold eu
 rw[wP (show n*8≤10000000000 by omega),wP (show n≤1000000000 by omega)]
 rfl
theorem PC(l:List Span):(eG l).length≤l.length*2:=by
 induction l with
 |nil=>exact wy _
 |cons x l ih=>
  have:eG (x::l)=(if bt x then[⟨x.ae,0⟩,⟨x.ae+x.size,0⟩]else[])++eG l:=by simp[eG]
  rw[this,wN,wY]
  split<;>simp<;>omega
theorem PD(l:List Span):(lE l).length=l.length:=by rw[lE,Px];simp
theorem IZ:∀ (l:List Span) (p:Option Int),(eI p l).length≤l.length
 |[],_=>wy _
 |x::l,p=>by
  rw[eI,wN,wY]
  have:=IZ l (some x.ae)
  split<;>simp<;>omega
theorem zfX(H:Heap)(an:H.lo≤H.next)(v:Value)(l:List Span)(hv:SLr bD 2 H v l)(hl:l.length≤400):af E (aK 234) [v] H fun r H'=>SLr (RInt .i64) 1 H' r (pQ l)∧aq H H':=by
 obtain⟨⟨a,ca,rfl,⟨_,ft⟩,bs⟩, -⟩:=hv
 refine aV Tryz.f234 ?_
 simp only[Tryz.f234]
 simp(disch:=omega)only[↓aa,ab,simprocAttr,sa, *]
 refine bP H [0,3,4] (fun T1 H1 u1 k1 n1 l1 g1=>?_) aj
 try simp(disch:=omega)only[sm,sl]at n1 l1 g1
 simp only[sq,simprocAttr]at u1
 refine bL kq (fun nn T X=>∃ (i:Nat) (v:Value),nn=l.length-i∧(T.get 3=some (v)∧T.get 4=some (.int .i64 i))∧(T.get 0=T1.get 0)∧True∧True∧(i≤l.length∧dD H.next 2 X v (eG (l.take i)).length ((eG (l.take i)).flatMap b9)∧aq H X)) ?_ ?_
 ·refine⟨_,0,_,rfl,?_,?_,trivial,trivial,wJ _,⟨rfl,.inl ⟨rfl,rfl⟩⟩,aA⟩<;>exact aJ
 rintro nn dA X1 ⟨i,vo,rfl,m1,w1,_,_,hi,hO,hS⟩ Qs hQ aG ai
 have EO:=hS.lo
 have EP:=hS.ag
 have uM:=PC (l.take i)
 rw[wU]at uM
 by_cases hlt:i<l.length
 ·obtain⟨r,o,cells,gg,tt,part,rfl,hr,aC,aR,rfl⟩:=bs i l[i] (by simp)
  have a1:=bn hlt
  have e1:=hS.objs r hr
  have bM:eG (l.take (i+1))=eG (l.take i)++(if bt l[i]then[⟨l[i].ae,0⟩,⟨l[i].ae+l[i].size,0⟩]else[]):=by
   rw[wR,wj hlt,wcx,zfW]
  generalize l[i]=x at aR bM
  obtain⟨c1,c2⟩:=qJ aR
  repeat'(first|(apply ak<;>intro)|((with_reducible show Qs _ _ _ _ _);refine ai _ _ _ _ ?_)|simp(disch:=omega)only[↓aa,ab,simprocAttr,sa,bh, *])
  all_goals try omega
  refine af.mono (iu _ ah x) ?_
  rintro rr Y ⟨rfl,sY⟩
  have iw:=hS.trans sY
  have kY:Ko X1 Y:=sY.ko
  have xj:=iw.lo
  have xk:=iw.ag
  have e2:=iw.keeps hr aC
  have BO:=hO.same sY
  clear sY
  by_cases hm:bt x
  ·rw[wF hm]at bM
   obtain⟨H3,xl,mn,rh,xo⟩:=vI (size:=2) (bytes:=16) (k:=2) (new:=[.int .i64 x.ae,.int .i64 0,.int .i64 (x.ae+x.size),.int .i64 0]) (BO.same (eO [.int .i64 x.ae,.int .i64 0,.int .i64 (x.ae+x.size),.int .i64 0])) (by simp(disch:=omega)only[ay,aN,az,aF,aE,aB,aM,aO,aQ,aP,aL,aD,aH,au,sl];omega) (by simp(disch:=omega)only[ay,aN,az,aF,aE,aB,aM,aO,aQ,aP,aL,aD,aH,au,sl];omega) (by omega) rfl rfl (rn (by omega))
   have s3:aq H H3:=rh.same (iw.newRow _) (wy _)
   have IN:=s3.lo
   have mo:dD H.next 2 H3 (.slice (some ⟨Y.next+1,0,none⟩) ((eG (l.take i)).length+2) ((eG (l.take i)).length+2)) (eG (l.take (i+1))).length ((eG (l.take (i+1))).flatMap b9):=by
    rw[bM,wN,wbd]
    rw[az]at mn
    exact mn
   have eC:=hm
   unfold bt at eC
   repeat'(first|refine aw 6 [Fx,Fx,Fx,Fx,Fx,Fx,Fx,Fx,Fx,Fx,Fx,Fx,Fx,Fx,Fx,Fx,Fx,Fx,Fx,Fx,Fx,Fx] ?_|simp(disch:=omega)only[↓aa,ab,simprocAttr,sa,bh,cw,zfV,wz hm, *])
   all_goals try omega
   refine hQ _ _ _ ?_ ⟨i+1,_,rfl,?_,?_,trivial,trivial,by omega,mo,s3⟩<;>exact aJ
  ·rw[wI hm,waw]at bM
   rw[←bM]at BO
   simp(disch:=omega)only[↓aa,ab,simprocAttr,sa,bh,cw,wx hm, *]
   all_goals try omega
   refine hQ _ _ _ ?_ ⟨i+1,vo,rfl,?_,?_,trivial,trivial,by omega,BO,iw⟩<;>exact aJ
 ·have ei:i=l.length:=by omega
  subst ei
  rw[waj]at hO uM
  repeat'(first|(apply ak<;>intro)|((with_reducible show Qs _ _ _ _ _);refine ai _ _ _ _ ?_)|simp(disch:=omega)only[↓aa,ab,simprocAttr,sa, *])
  all_goals try omega
  refine af.mono (zfQ _ ah vo (eG l) (BK hO rfl (by omega) (v8 _ _)) (by omega)) ?_
  rintro rr Y ⟨hs,sY⟩
  have iw:=hS.trans sY
  have xj:=iw.lo
  have xk:=iw.ag
  have fH:=PD (eG l)
  obtain⟨vs,nv,cv,rfl⟩:=hs.slice
  obtain⟨av',cv',ev, -,lP⟩:SL bD 2 Y (.slice vs nv cv) (lE (eG l)):=hs.reads rfl (by omega) (v8 _ _)
  simp only[waq]at ev
  obtain⟨rfl,rfl,rfl⟩:=ev
  have ln:(lE (eG l)).length≤800:=by omega
  have hEn:pQ l=eI none (lE (eG l)):=rfl
  generalize lE (eG l)=eS at lP ln hEn
  clear sY hs hO fH
  simp(disch:=omega)only[↓aa,ab,simprocAttr,sa, *]
  all_goals try omega
  refine bP Y [3,5,6] (fun T2 H2 u2 j2 n2 l2 g2=>?_) aj
  try simp(disch:=omega)only[sm,sl]at n2 l2 g2
  simp only[sq,simprocAttr]at u2
  refine bL kq (fun nn T X=>∃ (k:Nat) (w:Value),nn=eS.length-k∧(T.get 5=some (w)∧T.get 6=some (.int .i64 k))∧(T.get 3=T2.get 3)∧True∧True∧(k≤eS.length∧dD Y.next 1 X w (eI none (eS.take k)).length ((eI none (eS.take k)).map cx)∧aq Y X)) ?_ ?_
  ·refine⟨_,0,_,rfl,?_,?_,trivial,trivial,wJ _,⟨rfl,.inl ⟨rfl,rfl⟩⟩,j2.same (by omega)⟩<;>exact aJ
  rintro nn vU X2 ⟨k,w,rfl,m2,w2,_,_,hk,hO,BP⟩ Qs hQ aG ai
  have PE:=iw.trans BP
  have zi0:=BP.ag
  have zi1:=PE.lo
  have zi2:=PE.ag
  have zh:=IZ (eS.take k) none
  rw[wU]at zh
  by_cases jd:k<eS.length
  ·obtain⟨r,o,cells,gg,tt,part,rfl,hr,aC,aR,rfl⟩:=lP k eS[k] (by simp)
   have a1:=bn jd
   have e1:=BP.objs r hr
   have bM:eI none (eS.take (k+1))=eI none (eS.take k)++(if uz none (eS.take k)=some (eS[k]).ae then[]else[(eS[k]).ae]):=by
    rw[wR,wj jd,wcx,PA]
   obtain⟨c1,c2⟩:=qJ aR
   clear aR
   have CR:∀ (jY:0<k),uz none (eS.take k)=some (eS[k-1]'(by omega)).ae:=fun jY=>by
    unfold uz
    rw[List.getLast?_eq_getElem?,wU,waS (by omega),wcj (by omega),wj (by omega)]
   have hl0:k=0→uz none (eS.take k)=none:=fun e=>by subst e;rfl
   have zi:∀ (jY:0<k),∃gy g2 t2,gy[o+(k-1)*2]? =some (.int .i64 (eS[k-1]'(by omega)).ae)∧Y.objs.get r=some (.row gy g2 t2):=fun jY=>by
    obtain⟨r',o',gy,g2,t2,part,er,cp,ky,ss,rfl⟩:=lP (k-1) (eS[k-1]'(by omega)) (wj (by omega))
    cases er
    exact⟨gy,g2,t2,(qJ ss).1,ky⟩
   generalize (eS[k]).ae=xa at bM c1
   obtain⟨H3,xl,mn,rh,xo⟩:=vI (size:=1) (bytes:=8) (k:=1) (new:=[.int .i64 xa]) (hO.same (eO [.int .i64 xa])) (by simp(disch:=omega)only[ay,aN,az,aF,aE,aB,aM,aO,aQ,aP,aL,aD,aH,au,sl];omega) (by simp(disch:=omega)only[ay,aN,az,aF,aE,aB,aM,aO,aQ,aP,aL,aD,aH,au,sl];omega) (by omega) rfl rfl (mU (by omega))
   have I1:aq Y H3:=rh.same (BP.newRow _) (wy _)
   have s3:aq H H3:=iw.trans I1
   have IN:=s3.lo
   rw[az]at mn xl
   by_cases jY:k=0
   ·rw[hl0 jY,wI (by simp)]at bM
    have mo:dD Y.next 1 H3 (.slice (some ⟨X2.next+1,0,none⟩) ((eI none (eS.take k)).length+1) ((eI none (eS.take k)).length+1)) (eI none (eS.take (k+1))).length ((eI none (eS.take (k+1))).map cx):=by
     rw[bM,wN,waT]
     exact mn
    have d0:decide ((k:Int)=0)=true:=wz (by omega)
    clear CR zi hl0 bM jY
    repeat'(first|(apply ak<;>intro)|refine aw 12 [Fx,Fx,Fx,Fx,Fx,Fx,Fx,Fx,Fx,Fx,Fx,Fx,Fx,Fx,Fx,Fx] ?_|((with_reducible show Qs _ _ _ _ _);refine ai _ _ _ _ ?_)|simp(disch:=omega)only[↓aa,ab,simprocAttr,sa,cw,nw, *])
    all_goals try omega
    refine hQ _ _ _ ?_ ⟨k+1,_,rfl,?_,?_,trivial,trivial,by omega,mo,I1⟩<;>exact aJ
   ·obtain⟨gy,g2,t2,q1,q2⟩:=zi (by omega)
    rw[aC]at q2
    cases q2
    rw[CR (by omega)]at bM
    generalize (eS[k-1]'(by omega)).ae=ya at bM q1
    have a2:=bn (show k-1<eS.length by omega)
    have d0:decide ((k:Int)=0)=false:=wx (by omega)
    have d1:(k:Int)-1=((k-1:Nat):Int):=by omega
    clear CR hl0 zi jY
    by_cases bE:xa=ya
    ·rw[wF (by rw[bE]),waw]at bM
     rw[←bM]at hO
     have d2:decide (xa=ya)=true:=wz bE
     clear bE bM
     repeat'(first|(apply ak<;>intro)|refine aw 12 [Fx,Fx,Fx,Fx,Fx,Fx,Fx,Fx,Fx,Fx,Fx,Fx,Fx,Fx,Fx,Fx] ?_|((with_reducible show Qs _ _ _ _ _);refine ai _ _ _ _ ?_)|simp(disch:=omega)only[↓aa,ab,simprocAttr,sa,cw,nw, *])
     all_goals try omega
     refine hQ _ _ _ ?_ ⟨k+1,w,rfl,?_,?_,trivial,trivial,by omega,hO,BP⟩<;>exact aJ
    ·rw[wI (by simp only[wi];exact fun e=>bE e.symm)]at bM
     have mo:dD Y.next 1 H3 (.slice (some ⟨X2.next+1,0,none⟩) ((eI none (eS.take k)).length+1) ((eI none (eS.take k)).length+1)) (eI none (eS.take (k+1))).length ((eI none (eS.take (k+1))).map cx):=by
      rw[bM,wN,waT]
      exact mn
     have d2:decide (xa=ya)=false:=wx bE
     clear bE bM
     repeat'(first|(apply ak<;>intro)|refine aw 12 [Fx,Fx,Fx,Fx,Fx,Fx,Fx,Fx,Fx,Fx,Fx,Fx,Fx,Fx,Fx,Fx] ?_|((with_reducible show Qs _ _ _ _ _);refine ai _ _ _ _ ?_)|simp(disch:=omega)only[↓aa,ab,simprocAttr,sa,cw,nw, *])
     all_goals try omega
     refine hQ _ _ _ ?_ ⟨k+1,_,rfl,?_,?_,trivial,trivial,by omega,mo,I1⟩<;>exact aJ
  ·have ek:k=eS.length:=by omega
   subst ek
   rw[waj]at hO zh
   have hR:=BK hO rfl (by omega) (EH X2 _)
   repeat'(first|(apply ak<;>intro)|apply bw|refine aw 12 [Fx,Fx,Fx,Fx,Fx,Fx,Fx,Fx,Fx,Fx,Fx,Fx,Fx,Fx,Fx,Fx] ?_|((with_reducible show Qs _ _ _ _ _);refine ai _ _ _ _ ?_)|simp(disch:=omega)only[↓aa,ab,simprocAttr,sa, *])
   all_goals try omega
theorem zfY{out:List Span}{x y:Span}(h:y∈gx out x):y∈out∨y=x:=by
 unfold gx at h
 rcases waI.1 h with h|h
 ·exact .inl (List.mem_of_mem_take h)
 ·rcases wad.1 h with h|h
  ·exact .inr h
  ·exact .inl (List.mem_of_mem_drop h)
theorem PG:∀ (l out:List Span) {y:Span},y∈l.foldl gx out→y∈out∨y∈l
 |[],_,_,h=> .inl h
 |x::l,out,y,h=>by
  rcases PG l _ h with h|h
  ·rcases zfY h with h|h
   ·exact .inl h
   ·exact .inr (by rw[h];exact wW ..)
  ·exact .inr (wM _ h)
theorem PI:∀ (l:List Span) (p:Option Int) {a:Int},a∈eI p l→∃ y∈l,y.ae=a
 |[],_,_,h=>by cases h
 |x::l,p,a,h=>by
  rw[eI]at h
  rcases waI.1 h with h|h
  ·split at h
   ·cases h
   ·rw[waG]at h;exact⟨x,wW ..,h.symm⟩
  ·obtain⟨y,h1,h2⟩:=PI l _ h
   exact⟨y,wM _ h1,h2⟩
theorem zfZ{l:List Span}{a:Int}(h:a∈pQ l):0≤a∧a≤1099511627776:=by
 obtain⟨y,h1,rfl⟩:=PI _ _ h
 rcases PG _ _ h1 with h1|h1
 ·cases h1
 ·obtain⟨x,_,h2⟩:=List.mem_flatMap.1 h1
  split at h2
  ·rename_i hm
   unfold bt at hm
   simp only[wad,wbb,wck]at h2
   rcases h2 with rfl|rfl<;>simp only<;>omega
  ·cases h2
theorem zf0(l:List Span):(pQ l).length≤l.length*2:=by
 have h1:=IZ (lE (eG l)) none
 have h2:=PD (eG l)
 have h3:=PC l
 unfold pQ
 omega
def zj(out:List Span):Prop:=∀ y∈out,0≤y.ae∧y.ae≤1099511627776∧ -1099511627776≤y.size∧y.size≤1099511627776
theorem zf1:zj []:=fun y hy=>(by cases hy)
theorem zj.put{out:List Span}{f t:Int}(h:zj out)(hf:0≤f∧f≤1099511627776∧0≤t∧t≤1099511627776):zj (kE out f t):=by
 have hn:zj (out++[(⟨f,t-f⟩:Span)]):=fun y hy=>by
  rcases waI.1 hy with hy|hy
  ·exact h y hy
  ·rw[waG]at hy;subst hy;simp only;omega
 unfold kE
 split
 ·rename_i y hl
  split
  ·intro z hz
   rcases waI.1 hz with hz|hz
   ·exact h z (List.dropLast_subset _ hz)
   ·rw[waG]at hz
    subst hz
    have:=h y (List.mem_of_getLast? hl)
    simp only
    omega
  ·exact hn
 ·exact hn
theorem zf2(out:List Span)(f t:Int):(kE out f t).length≤out.length+1:=by
 unfold kE
 split
 ·split
  ·simp only[wN,List.length_dropLast,wbJ];omega
  ·simp
 ·simp
theorem zf3{H:Heap}{cs:List Value}{l:List Span}(h:cY bD 2 H cs l):cs=l.flatMap b9:=by
 obtain⟨h1,h2⟩:=h
 refine waR fun j=>?_
 have hl:=sP l
 by_cases hj:j<l.length*2
 ·obtain⟨part,hp,cU⟩:=h2 (j/2) l[j/2] (wj (by omega))
  have hq:=EI l (j/2) l[j/2] (wj (by omega))
  rw[du,wF (by omega)]at hp hq
  have e:=(waH hp).trans (cU.trans (waH hq).symm)
  have e2:=congrArg (fun t:List Value=>t[j%2]?) e
  simp only[wab,wae,wF (show j%2<2 by omega),show j/2*2+j%2=j by omega]at e2
  exact e2
 ·rw[wak (by omega),wak (by omega)]
theorem zf4(H:Heap)(an:H.lo≤H.next)(all:Span)(v:Value)(l:List Span)(hv:SLr bD 2 H v l)(hl:l.length≤300):af E (aK 188) [bh all,v] H fun r H'=>SLr bD 2 H' r (pR all l)∧aq H H':=by
 have ij:=hv
 have sN:aq H ((H.newRow [.int .i64 all.ae,.int .i64 all.size]).newRow [.int .i64 all.ae,.int .i64 all.size]):=(eO _).newRow _
 obtain⟨a,c,cs,rfl,eJ,om⟩:=(hv.1.mono bD.mono sN).vJ (hv.2.same sN)
 have eD:=zf3 om
 subst eD
 have se:dD H.next 2 ((H.newRow [.int .i64 all.ae,.int .i64 all.size]).newRow [.int .i64 all.ae,.int .i64 all.size]) (.slice (some ⟨H.next+1,0,none⟩) 1 1) 1 [.int .i64 all.ae,.int .i64 all.size]:=⟨rfl,.inr ⟨H.next+1,rfl,by omega,by simp(disch:=omega)only[ay,aN,az,aF,aE,aB,aM,aO,aQ,aP,aL,aD,aH,au,sl];omega,.inl (by simp(disch:=omega)only[ay,aN,az,aF,aE,aB,aM,aO,aQ,aP,aL,aD,aH,au,sl,cr])⟩⟩
 obtain⟨s1,Y,cK,nu,AH⟩:=HB (bytes:=16) (k:=l.length) (new:=l.flatMap b9) se (by simp(disch:=omega)only[ay,aN,az,aF,aE,aB,aM,aO,aQ,aP,aL,aD,aH,au,sl];omega) (by simp(disch:=omega)only[ay,aN,az,aF,aE,aB,aM,aO,aQ,aP,aL,aD,aH,au,sl];omega) (sP l) (IT l) (rn (by omega))
 have sY:aq H Y:=AH.same sN (wy _)
 have hbY:=AH.alone H.next [.int .i64 all.ae,.int .i64 all.size] true (by simp(disch:=omega)only[ay,aN,az,aF,aE,aB,aM,aO,aQ,aP,aL,aD,aH,au,sl];omega) (by simp(disch:=omega)only[ay,aN,az,aF,aE,aB,aM,aO,aQ,aP,aL,aD,aH,au,sl,cr])
 have xj:=sY.lo
 have xk:=AH.ag
 rw[az,az]at xk
 have hE1:SLr bD 2 Y s1 (all::l):=BK nu (by simp;omega) (by simp;omega) (v8 Y (all::l))
 refine aV Tryz.f188 ?_
 simp only[Tryz.f188]
 simp only[bh]
 simp(disch:=omega)only[↓aa,ab,simprocAttr,sa,nw,cw, *]
 all_goals try omega
 refine af.mono (zfX _ ah s1 (all::l) (SLr.ko bD.mono hE1 aj) (by simp;omega)) ?_
 rintro rr Z ⟨hs,sZ⟩
 have kZ:Ko Y Z:=Ko.call aj sZ
 have loZ:=sZ.lo
 have nxZ:=sZ.ag
 have EW:aq H Z:=sY.trans (kZ.same (by first|omega|(simp(disch:=omega)only[ay,aN,az,aF,aE,aB,aM,aO,aQ,aP,aL,aD,aH,au,sl];omega)))
 have pV:=zf0 (all::l)
 rw[wY]at pV
 have I2:∀ x∈pQ (all::l),0≤x∧x≤1099511627776:=fun x hx=>zfZ hx
 obtain⟨⟨ea,ec,rfl, -,bs⟩, -⟩:=hs
 have hG:pR all l=pieces all l [] (pQ (all::l)):=rfl
 generalize pQ (all::l)=es at bs pV I2 hG
 have hbZ:=kZ.keeps (by omega) hbY
 clear sZ
 simp(disch:=omega)only[↓aa,ab,simprocAttr,sa, *]
 all_goals try omega
 have PJ:=SLr.ko bD.mono ij EW.ko
 refine bP Z [1,2,5,6,7] (fun T1 H1 u1 j1 n1 l1 g1=>?_) aj
 try simp(disch:=omega)only[sm,sl]at n1 l1 g1
 simp only[sq,simprocAttr]at u1
 refine bL kq (fun nn T X=>∃ (i:Nat) (w:Value) (out:List Span) (go:Option Nat),nn=es.length-i∧(T.get 6=some (w)∧T.get 7=some (.int .i64 i))∧(T.get 1=T1.get 1∧T.get 2=T1.get 2∧T.get 5=T1.get 5)∧True∧True∧(i≤es.length∧pieces all l out (es.drop i)=pR all l∧out.length≤i∧zj out∧OS Z.next 2 X w out.length (out.flatMap b9) go∧aq Z X)) ?_ ?_
 ·refine⟨_,0,_,.nil,none,rfl,?_,?_,trivial,trivial,wJ _,hG.symm,wy _,zf1,⟨rfl,rfl,rfl⟩,j1.same (by omega)⟩<;>exact aJ
 rintro nn dA X1 ⟨i,w,out,go,rfl,m1,w1,_,_,hi,hP,fN,cf,hO,hS⟩ Qs hQ aG ai
 have EO:=hS.lo
 have EP:=hS.ag
 have zi3:=EW.lo
 have zi4:=EW.ag
 by_cases hlt:i+1<es.length
 ·obtain⟨r,o,cells,gg,tt,part,rfl,hr,aC,aR,rfl⟩:=bs i es[i] (wj (by omega))
  obtain⟨r2,o2,gy,jP,jQ,jR,I3,cq,fZ,cM,rfl⟩:=bs (i+1) es[i+1] (wj hlt)
  cases I3
  rw[aC]at fZ
  cases fZ
  have a1:=bn (show i<es.length by omega)
  have a2:((i:Int)+1).toNat=i+1:=by omega
  have e1:=hS.keeps hr aC
  have g1:=ER aR
  have g2:=ER cM
  clear aR cM
  have b1:=I2 es[i] (wam (by omega))
  have b2:=I2 es[i+1] (wam hlt)
  have rZ:es.drop i=es[i]::es.drop (i+1):=wX (by omega)
  have vl:es.drop (i+1)=es[i+1]::es.drop (i+2):=wX hlt
  have rq:pieces all l (if hasB all es[i]&& !mj l es[i]then kE out es[i] es[i+1]else out) (es.drop (i+1))=pR all l:=by
   rw[←hP,rZ,vl,pieces]
  clear rZ vl
  generalize es[i]=x at g1 b1 rq
  generalize es[i+1]=y at g2 b2 rq
  have hbX:=hS.keeps (by omega) hbZ
  have hh:hasB all x=decide (bt all∧all.ae≤x∧x≤all.ae+all.size-1):=rfl
  cases hd:hasB all x with
  |false=>
   rw[hd,wbj,wI (by simp)]at rq
   rw[hd]at hh
   replace hh:=hh.symm
   repeat'(first|(apply ak<;>intro)|refine aw 6 [Fx,Fx,Fx,Fx,Fx,Fx,Fx,Fx,Fx,Fx,Fx,Fx,Fx,Fx,Fx] ?_|((with_reducible show af _ _ _ _ _);refine ao X1 (rf _ ah all x) ?_;intro H2 k2 l2 n2 g2 q2;try simp(disch:=omega)only[sm,sl]at l2 n2 g2 q2)|((with_reducible show Qs _ _ _ _ _);refine ai _ _ _ _ ?_)|simp(disch:=omega)only[↓aa,ab,simprocAttr,sa,bh, *])
   all_goals try omega
   have pU:aq Z H2:=hS.trans (Ko.same k2 (by omega))
   have eM:=hO.ko k2
   refine hQ _ _ _ ?_ ⟨i+1,w,out,go,rfl,?_,?_,trivial,trivial,by omega,rq,by omega,cf,eM,pU⟩<;>exact aJ
  |true=>
   rw[hd]at hh
   replace hh:=hh.symm
   cases hc:mj l x with
   |true=>
    rw[hd,hc,wa7,wcP,wI (by simp)]at rq
    repeat'(first|(apply ak<;>intro)|refine aw 6 [Fx,Fx,Fx,Fx,Fx,Fx,Fx,Fx,Fx,Fx,Fx,Fx,Fx,Fx,Fx] ?_|((with_reducible show af _ _ _ _ _);(first|refine ao X1 (rf _ ah all x) ?_|refine ao X1 (Pw _ ah _ l (SLr.ko bD.mono PJ (hS.ko.trans aj)) x) ?_);intro H2 k2 l2 n2 g2 q2;try simp(disch:=omega)only[sm,sl]at l2 n2 g2 q2)|((with_reducible show Qs _ _ _ _ _);refine ai _ _ _ _ ?_)|simp(disch:=omega)only[↓aa,ab,simprocAttr,sa,bh, *])
    all_goals try omega
    have pU:aq Z H2:=hS.trans (Ko.same k2 (by omega))
    have eM:=hO.ko k2
    refine hQ _ _ _ ?_ ⟨i+1,w,out,go,rfl,?_,?_,trivial,trivial,by omega,rq,by omega,cf,eM,pU⟩<;>exact aJ
   |false=>
    rw[hd,hc,wb0,wcm,wF rfl]at rq
    repeat'(first|(apply ak<;>intro)|refine aw 6 [Fx,Fx,Fx,Fx,Fx,Fx,Fx,Fx,Fx,Fx,Fx,Fx,Fx,Fx,Fx] ?_|refine aw 7 [Fx,Fx,Fx,Fx,Fx,Fx,Fx,Fx,Fx,Fx,Fx,Fx] ?_|((with_reducible show af _ _ _ _ _);(first|refine ao X1 (rf _ ah all x) ?_|refine ao X1 (Pw _ ah _ l (SLr.ko bD.mono PJ (hS.ko.trans aj)) x) ?_);intro H2 k2 l2 n2 g2 q2;try simp(disch:=omega)only[sm,sl]at l2 n2 g2 q2)|((with_reducible show Qs _ _ _ _ _);refine ai _ _ _ _ ?_)|simp(disch:=omega)only[↓aa,ab,simprocAttr,sa,bh, *])
    all_goals try omega
    have eM:=hO.ko k2
    have yU:=k2.ag
    refine af.mono (zfT H2 (by omega) eM (by omega) (by omega) x y (by omega) (by omega) cf) ?_
    rintro rr W ⟨IX,hOW,aW⟩
    have pU:aq Z H2:=hS.trans (Ko.same k2 (by omega))
    have sW:aq Z W:=aW.same pU
    have pD:=zf2 out x y
    have zi5:=sW.lo
    have zf5:=cf.put (f:=x) (t:=y) (by omega)
    simp(disch:=omega)only[↓aa,ab,simprocAttr,sa,bh, *]
    all_goals try omega
    refine hQ _ _ _ ?_ ⟨i+1,_,_,IX,rfl,?_,?_,trivial,trivial,by omega,rq,by omega,zf5,hOW,sW⟩<;>exact aJ
 ·have bj:es.length≤i+1:=by omega
  have vy:pieces all l out (es.drop i)=out:=by
   by_cases nW:i<es.length
   ·rw[wX nW,wbs (by omega)]
    rfl
   ·rw[wbs (by omega)]
    rfl
  rw[vy]at hP
  have fH:=OS.reads hO rfl (by omega) (v8 X1 out)
  rw[hP]at fH
  have sX:=EW.trans hS
  have hGG:pR all l=pR all l:=rfl
  repeat'(first|(apply ak<;>intro)|refine aw 6 [Fx,Fx,Fx,Fx,Fx,Fx,Fx,Fx,Fx,Fx,Fx,Fx,Fx,Fx,Fx] ?_|((with_reducible show Qs _ _ _ _ _);refine ai _ _ _ _ ?_)|simp(disch:=omega)only[↓aa,ab,simprocAttr,sa,bh, *])
  all_goals try omega
  rw[←hG]
  first|exact fH|exact⟨fH,sX⟩
end Go.AM
