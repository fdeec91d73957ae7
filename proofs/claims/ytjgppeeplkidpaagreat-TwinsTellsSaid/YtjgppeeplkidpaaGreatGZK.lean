/-
  Walks over letters of the functions that the law reaches; written small by a program of mine.
-/
import Derived.Test.YtjgppeeplkidpaaGreatGYK
set_option linter.unusedVariables false
set_option linter.unusedSectionVars false
namespace Go.AM
attribute [local instance] fnMaps
open Go Go.Proofs
set_option maxRecDepth 100000
set_option maxHeartbeats 4000000
set_option linter.unusedSimpArgs false
theorem Rb{n:Nat}(h:n≤1000001):eu 1 8 n=true:=by
 simp[eu,kV,cw];omega
theorem zhW{n:Nat}(h:n≤1000001):eu 1 1 n=true:=by
 simp[eu,kV,cw];omega
theorem oX{b z n:Nat}{H:Heap}{v:Value}{cs:List Value}{go:Option Nat}(h:OS b z H v n cs go):∃ a k,v= .slice a n k:=by
 cases go with
 |none=>exact⟨none,0,by rw[h.1,h.2.1]⟩
 |some g=>obtain⟨r,k,q⟩:=CF h;exact⟨_,k,q⟩
theorem OS.base{b z n:Nat}{H:Heap}{v:Value}{cs:List Value}{go:Option Nat}(h:OS b z H v n cs go):baseV H (some v)=true:=by
 cases go with
 |none=>rw[h.1];rfl
 |some g=>
  obtain⟨r,cap,full,aT,h1,h2,h3,h4,h5,_⟩:=h
  subst h1
  simp only[baseV,h5]
set_option linter.defProp false
def sL:=And.intro (And.intro @Zd (And.intro @Zh @Zi)) (And.intro Ze (And.intro @Zf @Zg))
theorem zhX(H0 H:Heap)(an:H0.lo≤H0.next){x y:Value}{g:Gr}(hG:eg H0 x y g)(hg:jT g){p mt mp:Nat}{l:List Nat}{k:Nat}{first:Int}(hP:PF H0 H p mt mp x y g l k first)(hk:k≤l.length)(hl:l.length≤1000000)(u:bu)(hu:ny g.nodes.length u):
  af E (aK 311) [ptr p 0,cZ u] H fun r H'=>r= .bool (decide (u.kind=2∧u.x.toNat∉l))∧PF H0 H' p mt mp x y g (dM l [u]) k first:=by
 obtain⟨sv,bv,lv,top,gs,gb,gl,bc,es,hB,t1,t2,hK⟩:=hP
 have nz:=hG
 obtain⟨⟨⟨na,nc,rfl,⟨_,hn⟩,bs⟩,PR⟩,⟨⟨ra,rc,rfl,_,_⟩,_⟩⟩:=hG
 obtain⟨iK,sk,rfl⟩:=oX hB.sm
 obtain⟨ba,bk,rfl⟩:=oX hB.bg
 obtain⟨ka,kk,rfl⟩:=oX hB.lk
 have e1:=hB.row
 have e2:=hB.met
 have kh:=hB.pb;have me:=hB.mb;have tM:=hB.ob;have oT:=hB.ko;have Fp:=hB.lo;have aX:=hB.ne
 have jH:=oT.ag
 rw[zhl]
 unfold qe at e1
 refine aV Tryz.f311 ?_
 simp only[Tryz.f311]
 unfold cZ
 by_cases dL:u.kind=2
 ·have o3:0≤u.x∧u.x<g.nodes.length:=by
   have h1:=hu.1
   have h2:=hu.2 dL
   unfold bu.Ok at h1
   omega
  obtain⟨i,hi⟩:=wbz o3.1
  have J3:u.x.toNat=i:=by omega
  have cf:i<g.nodes.length:=by omega
  rw[J3]
  have a1:=bn cf
  have m1:=J0 (l:=l) cf
  have dk:decide (u.kind=2)=true:=wz dL
  by_cases hm:i∈l
  ·rw[wx (fun q=>q.2 hm),wI (fun q=>q.2 hm)]
   rw[wz hm]at m1
   clear hu o3 dL J3
   repeat'(first|refine aw 1 [Fx,Fx,Fx,Fx,Fx,Fx,Fx,Fx,Fx,Fx,Fx,Fx,Fx] ?_|simp(disch:=omega)only[↓aa,ab,simprocAttr,sa,sI, *])
   all_goals try omega
   exact⟨_,_,_,_,_,_,_,_,_,hB.go aj (by simp(disch:=omega)only[sm,sl,sI]),t1,t2,hK⟩
  ·rw[wz (show u.kind=2∧i∉l from⟨dL,hm⟩),wF ⟨dL,hm⟩]
   rw[wx hm]at m1
   clear hu o3 dL J3
   have ms:=zhT (l:=l) cf
   have ml:=Fm g.nodes.length l
   obtain⟨r,o,cells,gg,tt,part,rfl,hr,aC,aR,f,w,rfl,hf,hw⟩:=bs i g.nodes[i] (by simp)
   have en:=(oT.objs r hr).trans aC
   have ho:=hg.node g.nodes[i] (wam cf)
   generalize g.nodes[i]=nd at*
   obtain⟨-, -,o3,o4, -⟩:=ho
   have qH:=hf;have kB:=hw
   obtain⟨⟨fa,fc,rfl,⟨_,fm⟩,_⟩,_⟩:=hf
   obtain⟨⟨wa,wc,rfl,⟨_,wm⟩,_⟩,_⟩:=hw
   repeat'(first|refine aw 1 [Fx,Fx,Fx,Fx,Fx,Fx,Fx,Fx,Fx,Fx,Fx,Fx,Fx] ?_|simp(disch:=omega)only[↓aa,ab,simprocAttr,sa,sI, *])
   all_goals try omega
   have Fq:=(hB.go (H':=H.newRow [.int .i64 u.kind,.int .i64 i]) aj (by simp(disch:=omega)only[sm,sl,sI])).zhL (qk g.nodes.length (l++[i]))
   refine af.mono (zgm _ (by simp(disch:=omega)only[sm,sl,sI];omega) nd.kind _ _ nd (qH.ko cQ.mono Fq.ko) (kB.ko RW.mono Fq.ko) (by omega) (by omega)) ?_
   rintro _ H2 ⟨rfl,s2⟩
   have nF:=Fq.go s2.ko s2.lo
   have n2:=s2.ag
   simp(disch:=omega)only[sm,sl,sI]at n2
   have e1:=nF.row
   have e2:=nF.met
   have e3:=nF.nE
   have Fp:=nF.lo
   unfold qe at e1
   have hq:IntKind.i64.wrap (top.tdiv 1)=top:=by rw[Int.tdiv_one];exact wrap_i64 (by omega) (by omega)
   have fX:=zhR (z:= .slice none 0 0) hK
   obtain⟨A0,ea0,CG,nA0⟩:∃ A,appendT 1 8 ((H2.bU (H2.next+1)).newRow [.int .i64 l.length]) (.slice none 0 0) 1 [.int .i64 l.length]=some (.slice (some ⟨H2.next+1,0,none⟩) 1 1,A)∧PB H0 (A.bU H0.lo) p mt mp _ _ _ _ _ _ _ _ _ _ _ _ _ _ _∧A.next=H2.next+2:=by
    refine⟨((H2.bU (H2.next+1)).newRow [.int .i64 l.length]).dd 1 [.int .i64 l.length],?_,((nF.go (H':=H2.newRow [.int .i64 l.length]) aj (by simp(disch:=omega)only[sm,sl,sI])).dd 1 [.int .i64 l.length]).go ?_ ?_,by rw[gH,az,aD]⟩
    ·have e:((H2.bU (H2.next+1)).newRow [.int .i64 l.length]).next=H2.next+1:=by rw[az,aD]
     simp only[appendT,e]
     rfl
    ·refine⟨?_,fun x hx=>?_,fun x hx=>?_⟩
     ·rw[aD,gH,gH,az,az,aD];omega
     ·rw[aL,jj,jj,aN,aN,az,az,aD,aL]
     ·rw[CY,lz,lz,aM,aM,az,az,aD,CY]
    ·rw[aH,Bs,aE];omega
   have Cl:=zhS (H:=A0.bU H0.lo) (r:=mp) (es:=es) (v:= .slice (some ⟨H2.next+1,0,none⟩) 1 1) (by rw[CG.lo];omega) hK
   have f1:=CG.row
   have f3:=CG.nE
   rw[aL]at f1 f3
   have CH:=CG.lu (es++[(.int .i64 top,.slice (some ⟨H2.next+1,0,none⟩) 1 1)])
   obtain⟨r1,k1,A1,g1,ea1,dZ,sQ⟩:=(CH.go (H':=((A0.bU H0.lo).setObj mp (.map (es++[(.int .i64 top,.slice (some ⟨H2.next+1,0,none⟩) 1 1)]))).newRow [.int .i64 i]) aj (by simp(disch:=omega)only[sm,sl,sI])).zhM (bytes:=8) (x:= .int .i64 i) an rfl (Rb (by omega))
   obtain⟨r2,k2,A2,g2,ea2,yU,uv⟩:=(sQ.go (H':=A1.newRow [.int .i64 top]) aj (by simp(disch:=omega)only[sm,sl,sI])).zhN (bytes:=8) (x:= .int .i64 top) an rfl (Rb (by omega))
   obtain⟨r3,k3,A3,g3,ea3,EF,J4⟩:=(uv.go (H':=A2.newRow [.bool false]) aj (by simp(disch:=omega)only[sm,sl,sI])).zhO (bytes:=1) (x:= .bool false) an rfl (zhW (by omega))
   have w1:=CH.row
   have w2:=sQ.row
   have w3:=uv.row
   have w4:=J4.row
   have l0:(A0.bU H0.lo).lo=H0.lo:=aH ..
   have l1:=CH.lo;have l2:=sQ.lo;have l3:=uv.lo;have l4:=J4.lo
   have m2:A0.next≤A1.next:=by simp(disch:=omega)only[sm,sl,sI]at dZ;omega
   have b1:=(CH.go (H':=((A0.bU H0.lo).setObj mp (.map (es++[(.int .i64 top,.slice (some ⟨H2.next+1,0,none⟩) 1 1)]))).newRow [.int .i64 i]) aj (by simp(disch:=omega)only[sm,sl,sI])).sm.base
   have b2:=(sQ.go (H':=A1.newRow [.int .i64 top]) aj (by simp(disch:=omega)only[sm,sl,sI])).bg.base
   simp(disch:=omega)only[sm,sl,sI]at yU EF
   unfold qe at f1 w1 w2 w3 w4
   have pC:=fun c c' c'' zhY=>(((J4.CE c).CE c').CE c'').CE zhY
   clear hB Fq nF CG CH sQ uv s2 dZ
   repeat'(first|(apply ak<;>intro)|refine aw 7 [Fx,Fx,Fx,Fx,Fx,Fx,Fx,Fx,(false,[12],[]),Fx,Fx,Fx,(false,[8],[]),Fx,Fx,Fx,Fx,Fx,Fx,Fx,Fx,Fx] ?_|refine aw 9 [Fx,Fx,Fx,Fx,Fx,Fx,Fx,Fx,Fx,Fx] ?_|refine aw 10 [Fx,Fx,Fx,Fx,Fx,Fx,Fx,Fx,Fx,Fx,Fx,Fx,Fx,Fx,Fx,Fx,Fx,Tx,Fx] ?_|refine aw 11 [Fx,Fx,Fx,Fx,Fx,Fx,Fx,Fx,Fx,(false,[13,17,23],[]),Fx,Fx,Fx,(false,[9],[]),Fx,Fx,Fx,(false,[9],[]),Fx,(false,[23],[]),Fx,Fx,Fx,(false,[9,19],[]),Fx,Fx,Fx,Fx,Fx,Fx,Fx,Fx,Fx,Fx,Fx] ?_|simp(disch:=omega)only[↓aa,ab,simprocAttr,sa,sI,sL,zhQ,zhP,cw,iG,dW, *])
   all_goals try omega
   have bj:(l++[i]).length=l.length+1:=by simp
   refine⟨.slice (some ⟨r1,0,none⟩) (l.length+1) k1,.slice (some ⟨r2,0,none⟩) (l.length+1) k2,.slice (some ⟨r3,0,none⟩) (l.length+1) k3,top+(1+nd.fields.length+nd.bC.length),some g1,some g2,some g3,bc++[.int .i64 top],es++[(.int .i64 top,.slice (some ⟨H2.next+1,0,none⟩) 1 1)],?_,by omega,by rw[bj];omega,hK.more (by omega)⟩
   unfold qe
   rw[bj,show(l++[i]).map xO=l.map xO++[.int .i64 i] by simp[xO],←zhV hk]
   exact pC _ _ _ _
 ·rw[wx (fun q=>dL q.1),wI (fun q=>dL q.1)]
  have dk:decide (u.kind=2)=false:=wx dL
  clear hu dL
  repeat'(first|refine aw 1 [Fx,Fx,Fx,Fx,Fx,Fx,Fx,Fx,Fx,Fx,Fx,Fx,Fx] ?_|simp(disch:=omega)only[↓aa,ab,simprocAttr,sa,sI, *])
  all_goals try omega
  exact⟨_,_,_,_,_,_,_,_,_,hB.go aj (by simp(disch:=omega)only[sm,sl,sI]),t1,t2,hK⟩
theorem PF.go{H0 H H':Heap}{p mt mp:Nat}{x y:Value}{g:Gr}{l:List Nat}{k:Nat}{first:Int}(h:PF H0 H p mt mp x y g l k first)(s:Ko H H')(e:H'.lo=H.lo):PF H0 H' p mt mp x y g l k first:=by
 obtain⟨sv,bv,lv,top,gs,gb,gl,bc,es,hB,h1⟩:=h
 exact⟨sv,bv,lv,top,gs,gb,gl,bc,es,hB.go s e,h1⟩
structure PH(H0 H:Heap)(p:Nat):Prop where
 ko:Ko H0 H
 lo:H.lo=H0.lo
 p1:H0.next≤p
 p2:p<H.next
theorem PF.ph{H0 H:Heap}{p mt mp:Nat}{x y:Value}{g:Gr}{l:List Nat}{k:Nat}{first:Int}(h:PF H0 H p mt mp x y g l k first):PH H0 H p:=by
 obtain⟨_,_,_,_,_,_,_,_,_,hB,_⟩:=h
 exact⟨hB.ko,hB.lo,hB.pb.1,hB.pb.2⟩
theorem zhZ{n:Nat}{vs:List bu}(h:∀ u∈vs,ny n u):xx n vs:=fun v hv hk=>by
 have h1:=(h v hv).1
 have h2:=(h v hv).2 hk
 unfold bu.Ok at h1
 omega
theorem Rd(H0 H:Heap)(an:H0.lo≤H0.next){x y:Value}{g:Gr}(hG:eg H0 x y g)(hg:jT g)(hn:g.nodes.length≤1000000){p mt mp:Nat}{l:List Nat}{k:Nat}{first:Int}(hP:PF H0 H p mt mp x y g l k first)(hk:k≤l.length)(yu:l.Nodup)(hlt:∀ i∈l,i<g.nodes.length)(v:Value)(vs:List bu)(hv:SLr cQ 2 H0 v vs)(lP:∀ u∈vs,ny g.nodes.length u):
  af E (aK 291) [ptr p 0,v] H fun r H'=>r= .tuple #[]∧PF H0 H' p mt mp x y g (dM l vs) k first:=by
 obtain⟨⟨a,ca,rfl,⟨_,ft⟩,bs⟩, -⟩:=hv
 have th:=hP.ph
 have jH:=th.ko.ag
 have hl0:=th.lo
 refine aV Tryz.f291 ?_
 simp only[Tryz.f291]
 simp(disch:=omega)only[↓aa,ab,simprocAttr,sa,sI, *]
 all_goals try omega
 refine bP H [0,6,7,8] (fun T5 H5 u5 j5 n5 l5 g5=>?_) jr
 try simp(disch:=omega)only[sm,sl,sI]at n5 l5 g5
 simp only[sq,simprocAttr]at u5
 refine bL kq (fun nn T X=>∃ (j:Nat),nn=vs.length-j∧(T.get 8=some (.int .i64 j))∧(T.get 0=T5.get 0∧T.get 6=T5.get 6∧T.get 7=T5.get 7)∧True∧True∧(j≤vs.length∧PF H0 X p mt mp x y g (dM l (vs.take j)) k first)) ?_ ?_
 ·refine⟨_,0,rfl,?_,?_,trivial,trivial,wJ _,hP.go j5 l5⟩<;>exact aJ
 rintro nn zk X5 ⟨j,rfl,m5,w5,_,_,hj,oY⟩ Qs hQ aG ai
 have h5:=oY.ph
 have h5n:=h5.ko.ag
 have h5l:=h5.lo
 by_cases jB:j<vs.length
 ·obtain⟨r,o,cells,gg,tt,part,rfl,hr,aC,aR,rfl⟩:=bs j vs[j] (by simp)
  have a1:=bn jB
  have e1:=(h5.ko.objs r hr).trans aC
  have hvm:=lP vs[j] (wam jB)
  have iy:dM l (vs.take (j+1))=dM (dM l (vs.take j)) [vs[j]]:=by
   rw[wR,wj jB,JA];rfl
  have lx:∀ u∈vs.take j,ny g.nodes.length u:=fun u hu=>lP u (List.mem_of_mem_take hu)
  have zh0:=sV (vs.take j) l yu
  have jd:=Ch (zhZ lx) hlt
  have bj:=zH _ _ zh0 jd
  have mP:=wK hk (QU l (vs.take j))
  generalize vs[j]=u at*
  generalize dM l (vs.take j)=L at*
  unfold bF at aR
  have c1:=fun(X:Heap) (h:PF H0 X p mt mp x y g L k first)=>zhX H0 X an hG hg h mP (by omega) u hvm
  unfold cZ at c1
  repeat'(first|(apply ak<;>intro)|((with_reducible show Qs _ _ _ _ _);refine ai _ _ _ _ ?_)|simp(disch:=omega)only[↓aa,ab,simprocAttr,sa,sI, *])
  all_goals try omega
  refine af.mono (c1 _ (oY.go aj (by simp(disch:=omega)only[sm,sl,sI]))) ?_
  rintro _ Z ⟨rfl,hZ⟩
  rw[←iy]at hZ
  have h6:=hZ.ph
  repeat'(first|(apply ak<;>intro)|apply bw|refine cO (fun _=>?_) (fun _=>?_)|((with_reducible show Qs _ _ _ _ _);first|refine ai _ _ _ _ ?_|refine aG _ _ _ ?_)|simp(disch:=omega)only[↓aa,ab,simprocAttr,sa,sI, *])
  all_goals try omega
  refine hQ _ _ _ ?_ ⟨j+1,rfl,?_,?_,trivial,trivial,by omega,hZ⟩<;>exact aJ
 ·have ej:j=vs.length:=by omega
  rw[ej,waj]at oY
  repeat'(first|(apply ak<;>intro)|((with_reducible show Qs _ _ _ _ _);refine ai _ _ _ _ ?_)|simp(disch:=omega)only[↓aa,ab,simprocAttr,sa,sI, *])
  all_goals first|exact⟨rfl,oY⟩|exact oY|omega|trace_state
theorem zh1:E.fn.get 248=some Tryz.f248:=kq
theorem zh2(H0 H:Heap)(an:H0.lo≤H0.next){x y:Value}{g:Gr}(hG:eg H0 x y g){p mt mp:Nat}{l:List Nat}{k:Nat}(hP:PM H0 H p mt mp x y g l k)(hk:k≤l.length)(hl:l.length≤1000000):
  af E (.func (.func 248) #[ptr p 0] #[]) [] H fun r H'=>r= .tuple #[.int .i64 k,.bool (decide (k<l.length))]∧PM H0 H' p mt mp x y g l k:=by
 obtain⟨first,f1,f2,hP⟩:=hP
 obtain⟨⟨na,nc,rfl,_⟩,_⟩:=hG.nodes
 obtain⟨⟨ra,rc,rfl,_⟩,_⟩:=hG.roots
 have th:=hP.ph
 have jH:=th.ko.ag
 have hl0:=th.lo
 refine yN kq zh1 rfl rfl ?_
 simp only[Tryz.f248]
 simp(disch:=omega)only[↓aa,ab,simprocAttr,sa,wL,wat,sI, *]
 all_goals try omega
 refine bP H [0] (fun T5 H5 u5 j5 n5 l5 g5=>?_) jr
 try simp(disch:=omega)only[sm,sl,sI]at n5 l5 g5
 simp only[sq,simprocAttr]at u5
 refine bL kq (fun nn T X=>∃ (first:Int),nn=(k-first).toNat∧(True)∧(T.get 0=T5.get 0)∧True∧True∧(0≤first∧first≤k∧PF H0 X p mt mp (.slice na g.nodes.length nc) (.slice ra g.roots.length rc) g l k first)) ?_ ?_
 ·refine⟨_,first,rfl,?_,?_,trivial,trivial,f1,f2,hP.go j5 l5⟩<;>exact aJ
 clear hP f1 f2
 rintro nn zk X5 ⟨fs,rfl,m5,w5,_,_,f1,f2,oY⟩ Qs hQ aG ai
 have h5:=oY.ph
 have h5n:=h5.ko.ag
 have h5l:=h5.lo
 have J5:=oY
 obtain⟨sv,bv,lv,top,gs,gb,gl,bc,es,hB,t1,t2,hK⟩:=oY
 obtain⟨iK,sk,rfl⟩:=oX hB.sm
 obtain⟨ba,bk,rfl⟩:=oX hB.bg
 obtain⟨ka,kk,rfl⟩:=oX hB.lk
 have e1:=hB.row
 have kh:=hB.pb
 have fX:=hB.lk
 obtain⟨f,rfl⟩:=wbz f1
 have hfk:f≤k:=by omega
 have pC:=fun c=>hB.CE c
 unfold qe at e1 pC
 by_cases ur:f<l.length
 ·cases gl with
  |none=>have:=fX.2.1;omega
  |some gq=>
   obtain⟨r,cap,full,aT,ly,y5,Ii,CI,Fs,Re,hv7,hv8, -⟩:=fX
   simp only[waq,wbT]at ly
   obtain⟨rfl,rfl⟩:=ly
   have a1:=bn ur
   have q1:full[f]? =some (.bool (decide (f<k))):=by
    have:=J1 (k:=k) ur
    rw[←CI,wab,wF (by omega)]at this
    exact this
   have aX:r≠p:=fun e=>by rw[e,hB.row]at Fs;simp at Fs
   by_cases hlt:f<k
   ·rw[wz hlt]at q1
    clear CI hB J5
    have hN:PF H0 (X5.setRow p _) p mt mp (.slice na g.nodes.length nc) (.slice ra g.roots.length rc) g l k ((f:Int)+1):=⟨.slice iK l.length sk,.slice ba l.length bk,.slice (some ⟨r,0,none⟩) l.length kk,top,gs,gb,some gq,bc,es,pC _,t1,t2,hK⟩
    clear pC hK
    repeat'(first|(apply ak<;>intro)|refine aw 1 [Fx,Fx,Fx,Fx,Fx,Fx,Fx,Fx,Fx,Fx,Fx,Fx,Fx,Fx,Fx,Fx,Fx,Fx,Fx,Fx,Fx,Fx] ?_|refine aw 3 [Fx,Fx,Fx,Fx,Fx,Fx,Fx,Fx,Fx,Fx,Fx,Fx,Fx,Fx,Fx,Fx] ?_|((with_reducible show Qs _ _ _ _ _);refine ai _ _ _ _ ?_)|simp(disch:=omega)only[↓aa,ab,simprocAttr,sa,sI, *])
    all_goals try omega
    refine hQ _ _ _ ?_ ⟨(f:Int)+1,rfl,?_,?_,trivial,trivial,by omega,by omega,hN⟩<;>exact aJ
   ·rw[wx hlt]at q1
    have ef:f=k:=by omega
    subst ef
    clear CI hB
    repeat'(first|(apply ak<;>intro)|refine aw 1 [Fx,Fx,Fx,Fx,Fx,Fx,Fx,Fx,Fx,Fx,Fx,Fx,Fx,Fx,Fx,Fx,Fx,Fx,Fx,Fx,Fx,Fx] ?_|refine aw 3 [Fx,Fx,Fx,Fx,Fx,Fx,Fx,Fx,Fx,Fx,Fx,Fx,Fx,Fx,Fx,Fx] ?_|((with_reducible show Qs _ _ _ _ _);refine ai _ _ _ _ ?_)|simp(disch:=omega)only[↓aa,ab,simprocAttr,sa,sI, *])
    all_goals try omega
    exact⟨f,f1,by omega,J5⟩
 ·have ef:f=k:=by omega
  subst ef
  repeat'(first|(apply ak<;>intro)|refine aw 1 [Fx,Fx,Fx,Fx,Fx,Fx,Fx,Fx,Fx,Fx,Fx,Fx,Fx,Fx,Fx,Fx,Fx,Fx,Fx,Fx,Fx,Fx] ?_|refine aw 3 [Fx,Fx,Fx,Fx,Fx,Fx,Fx,Fx,Fx,Fx,Fx,Fx,Fx,Fx,Fx,Fx] ?_|((with_reducible show Qs _ _ _ _ _);refine ai _ _ _ _ ?_)|simp(disch:=omega)only[↓aa,ab,simprocAttr,sa,sI, *])
  all_goals try omega
  exact⟨f,f1,by omega,J5⟩
end Go.AM
