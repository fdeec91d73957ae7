/-
  Walks over letters of the functions that the law reaches; written small by a program of mine.
-/
import Derived.Test.YtjgppeeplkidpaaGreatGC13
import Derived.Test.YtjgppeeplkidpaaGreatGB3
set_option linter.unusedVariables false
set_option linter.unusedSectionVars false
namespace Go.AM
attribute [local instance] fnMaps
open Go Go.Proofs
set_option maxRecDepth 100000
set_option maxHeartbeats 1000000
set_option linter.unusedSimpArgs false
structure St where
 cfg:cj
 second:Bool
 words:List Nat
 top:Int
 table:List Span
 free:List Span
 aI:List Slot
def gm(s:St)(w t f zl ap sm mp:Value):List Value:=[.int .i64 s.cfg.eP,.int .i64 s.cfg.fp,.int .i64 s.cfg.aI,.int .i64 s.cfg.gV,.bool s.second,w,.int .i64 s.top,t,f,zl,ap,sm,mp]
structure eK(H:Heap)(s:St)(w t f zl:Value):Prop where
 w:SLr RW 1 H w s.words
 t:SLr bD 2 H t s.table
 f:SLr bD 2 H f s.free
 sl:SLr qS 3 H zl s.aI
theorem zaV(H:Heap)(an:H.lo≤H.next){lp:Nat}{s:St}{w t f zl ap sm mp:Value}(aC:H.objs.get lp=some (.row (gm s w t f zl ap sm mp) none true))(hl:lp<H.next):af E (aK 193) [ptr lp 0] H fun r H'=>r= .bool (decide s.cfg.Ok)∧aq H H':=by
 unfold gm at aC
 refine aV Tryz.f193 ?_
 simp only[Tryz.f193]
 repeat'(first|((with_reducible show af _ _ _ _ _);refine ao H (Em _ ah s.cfg) ?_;intro H2 k2 l2 n2 g2 q2;try simp(disch:=omega)only[sm,sl]at l2 n2 g2 q2)|simp(disch:=omega)only[↓aa,ab,simprocAttr,sa, *])
 exact aA
theorem zaW(H:Heap)(an:H.lo≤H.next){lp:Nat}{s:St}{w t f zl ap sm mp:Value}(aC:H.objs.get lp=some (.row (gm s w t f zl ap sm mp) none true))(hl:lp<H.next)(hS:eK H s w t f zl):af E (aK 194) [ptr lp 0] H fun r H'=>r= .bool (decide ((s.words.length:Int)=s.cfg.words))∧aq H H':=by
 unfold gm at aC
 obtain⟨⟨a,c,rfl,_⟩,_⟩:=hS.w
 refine aV Tryz.f194 ?_
 simp only[Tryz.f194]
 repeat'(first|refine aw 1 [Fx,Fx,Fx,Fx,Fx,Fx,Fx,Fx,Fx,Fx,Fx,Tx,Fx,Fx] ?_|((with_reducible show af _ _ _ _ _);refine ao H (zaq _ ah s.cfg) ?_;intro H2 k2 l2 n2 g2 q2;try simp(disch:=omega)only[sm,sl]at l2 n2 g2 q2)|simp(disch:=omega)only[↓aa,ab,simprocAttr,sa, *])
 exact aA
def oo(s:St):Prop:=(s.cfg.dz s.second).ae≤s.top∧s.top≤(s.cfg.dz s.second).ae+(s.cfg.dz s.second).size
instance(s:St):Decidable (oo s):=by unfold oo;infer_instance
theorem Io(c:cj)(b:Bool):0≤(c.dz b).ae∧(c.dz b).ae≤32768∧0≤(c.dz b).size∧(c.dz b).size≤32768:=by
 unfold cj.dz
 split
 ·rename_i h
  unfold cj.Ok at h
  cases b<;>simp<;>omega
 ·simp
theorem zaX(H:Heap)(an:H.lo≤H.next){lp:Nat}{s:St}{w t f zl ap sm mp:Value}(aC:H.objs.get lp=some (.row (gm s w t f zl ap sm mp) none true))(hl:lp<H.next):af E (aK 195) [ptr lp 0] H fun r H'=>r= .bool (decide (oo s))∧aq H H':=by
 unfold gm at aC
 have hf:=Io s.cfg s.second
 refine aV Tryz.f195 ?_
 simp only[Tryz.f195]
 by_cases h1:(s.cfg.dz s.second).ae≤s.top
 ·repeat'(first|refine aw 1 [Fx,Fx,Fx,Fx,Fx,Fx,Fx,Fx,Fx,Fx,Fx,Fx,Fx] ?_|refine aw 2 [Fx,Fx,Fx,Fx,Fx,Fx,Fx,Fx,Fx,Fx,Fx,Fx,Fx,Fx,Fx,Fx,Fx,Fx,Fx,Fx,Fx,Fx] ?_|((with_reducible show af _ _ _ _ _);refine ao H (Ia _ ah s.cfg s.second) ?_;intro H2 k2 l2 n2 g2 q2;try simp(disch:=omega)only[sm,sl]at l2 n2 g2 q2)|simp(disch:=omega)only[↓aa,ab,simprocAttr,sa,bh, *])
  all_goals((with_reducible show _∧_);exact⟨eZ (by simp only[wT,wG,wbh,wa5,oo];first|omega|(simp[*]<;>omega)),aA⟩)
 ·repeat'(first|refine aw 1 [Fx,Fx,Fx,Fx,Fx,Fx,Fx,Fx,Fx,Fx,Fx,Fx,Fx] ?_|refine aw 2 [Fx,Fx,Fx,Fx,Fx,Fx,Fx,Fx,Fx,Fx,Fx,Fx,Fx,Fx,Fx,Fx,Fx,Fx,Fx,Fx,Fx,Fx] ?_|((with_reducible show af _ _ _ _ _);refine ao H (Ia _ ah s.cfg s.second) ?_;intro H2 k2 l2 n2 g2 q2;try simp(disch:=omega)only[sm,sl]at l2 n2 g2 q2)|simp(disch:=omega)only[↓aa,ab,simprocAttr,sa,bh, *])
  all_goals((with_reducible show _∧_);exact⟨eZ (by simp only[wT,wG,wbh,wa5,oo];first|omega|(simp[*]<;>omega)),aA⟩)
theorem zaY(H:Heap)(an:H.lo≤H.next){lp:Nat}{s:St}{w t f zl ap sm mp:Value}(aC:H.objs.get lp=some (.row (gm s w t f zl ap sm mp) none true))(hl:lp<H.next)(hS:eK H s w t f zl)(hu:∀ x∈s.aI,x.word<2^64):af E (aK 199) [ptr lp 0] H fun r H'=>r= .bool (nh s.aI s.cfg.aI)∧aq H H':=by
 unfold gm at aC
 have hs:=hS.sl
 refine aV Tryz.f199 ?_
 simp only[Tryz.f199]
 repeat'(first|refine aw 1 [Fx,Fx,Fx,Fx,Fx,Fx,Fx,Fx,Fx,Fx,Fx,Fx,Fx] ?_|((with_reducible show af _ _ _ _ _);refine ao H (zaT _ ah zl s.aI (hs.1.ext qS.mono (Ko.ext aj)) hu s.cfg.aI) ?_;intro H2 k2 l2 n2 g2 q2;try simp(disch:=omega)only[sm,sl]at l2 n2 g2 q2)|simp(disch:=omega)only[↓aa,ab,simprocAttr,sa, *])
 exact aA
theorem OG(r o:Nat):cg (ptr r o)=[ptr r o]:=wE rfl rfl
theorem zaZ(o:Option Nat):cg (.map o)=[.map o]:=wE rfl rfl
theorem za0(o:Option Nat):isCell (.map o)=true:=wE rfl rfl
theorem Ez{cells:List Value}{k:Nat}{a:Value}(h:cut cells k 1=some [a]):cells[k]? =some a:=by
 rw[du]at h
 split at h
 ·simp only[wi]at h
  have h0:=congrArg (fun l:List Value=>l[0]?) h
  simp only[wab,wae]at h0
  simpa using h0
 ·cases h
structure eL(k:Nat)(H H':Heap):Prop where
 ag:H.next≤H'.next
 objs:∀ x,x<H.next→x≠k→H'.objs.get x=H.objs.get x
 grps:∀ x,x<H.next→H'.grps.get x=H.grps.get x
theorem Ko.iI{H H':Heap}(h:Ko H H')(k:Nat):eL k H H':=⟨h.ag,fun x hx _=>h.objs x hx,h.grps⟩
theorem eL.ko{k:Nat}{H X Y:Heap}(h:eL k H X)(h':Ko X Y):eL k H Y:=⟨wK h.ag h'.ag,fun x hx hk=>(h'.objs x (wq hx h.ag)).trans (h.objs x hx hk),fun x hx=>(h'.grps x (wq hx h.ag)).trans (h.grps x hx)⟩
theorem eL.setRow{k:Nat}{H X:Heap}(h:eL k H X)(c:List Value):eL k H (X.setRow k c):=⟨h.ag,fun x hx hk=>by rw[ay,au hk];exact h.objs x hx hk,h.grps⟩
theorem eL.HY{k:Nat}{H X:Heap}(h:eL k H X)(hl:X.lo=H.lo):mZ k H X:=⟨hl,h.ag,h.objs,h.grps⟩
theorem eL.trans{k:Nat}{H X Y:Heap}(h:eL k H X)(h':eL k X Y):eL k H Y:=⟨wK h.ag h'.ag,fun x hx hk=>(h'.objs x (wq hx h.ag) hk).trans (h.objs x hx hk),fun x hx=>(h'.grps x (wq hx h.ag)).trans (h.grps x hx)⟩
theorem eL.new{k m:Nat}{H X Y:Heap}(h:eL k H X)(h':eL m X Y)(hm:H.next≤m):eL k H Y:=⟨wK h.ag h'.ag,fun x hx hk=>(h'.objs x (wq hx h.ag) (by omega)).trans (h.objs x hx hk),fun x hx=>(h'.grps x (wq hx h.ag)).trans (h.grps x hx)⟩
theorem eL.setAt{k:Nat}{H X:Heap}(h:eL k H X)(o:AObj):eL k H (X.setObj k o):=⟨by rw[px];exact h.ag,fun x hx hk=>by rw[iU,au hk];exact h.objs x hx hk,fun x hx=>by rw[yn];exact h.grps x hx⟩
theorem Ar.iI{H X:Heap}{k a rw g:Nat}{ws:List Nat}(h:Ar H a rw g ws)(s:eL k H X)(h1:a≠k)(h2:rw≠k):Ar X a rw g ws:=
 ⟨(s.objs a h.la h1).trans h.box,(s.objs rw h.lw h2).trans h.row,(s.grps g h.lg).trans h.bK,wq h.la s.ag,wq h.lw s.ag,wq h.lg s.ag,h.ne,h.u64,h.len⟩
theorem SLr.fresh{α:Type}{R:Heap→List Value→α→Prop}(hR:∀ X X' part x,R X part x→R X' part x){z b:Nat}{H Y:Heap}{v:Value}{l:List α}(h:SLr R z H v l)(hf:je b v)(ho:∀ r,b≤r→r<H.next→Y.objs.get r=H.objs.get r)(hn:H.next≤Y.next):SLr R z Y v l:=by
 obtain⟨⟨a,c,rfl,hc,hl⟩,hr⟩:=h
 refine⟨⟨a,c,rfl,hc,fun i x hx=>?_⟩,fun a' n c' e=>?_⟩
 ·obtain⟨r,o,cells,g,t,part,rfl,h1,h2,h3,h4⟩:=hl i x hx
  rcases hf _ _ _ rfl with h5|⟨r',h5,h6⟩
  ·cases h5
  ·cases h5
   exact⟨r,0,cells,g,t,part,rfl,by omega,(ho r h6 h1).trans h2,h3,hR _ _ _ _ h4⟩
 ·rcases hr a' n c' e with h5|⟨r,cells,g,t,h5,h6,h7⟩
  ·exact .inl h5
  ·rcases hf _ _ _ e with h8|⟨r',h8,h9⟩
   ·exact .inl h8
   ·rw[h5]at h8
    cases h8
    exact .inr ⟨r,cells,g,t,h5,by omega,(ho r h9 h6).trans h7⟩
def cP(s:St):List Int×Int:=iJ s.words (s.cfg.dz s.second) s.top
def sE(s:St):List Int:=(cP s).1.foldl oN []
structure Lk(H:Heap)(lp:Nat)(s:St)(w t f zl:Value)(a rw m:Nat)(dK:Value)(dE ks:List Int):Prop where
 row:H.objs.get lp=some (.row (gm s w t f zl (ptr a 0) dK (.map (some m))) none true)
 ar:Ar H a rw rw s.words
 small:SLr (RInt .i64) 1 H dK dE
 map:H.objs.get m=some (.map (fW ks))
 lm:m<H.next
theorem za1(H:Heap)(an:H.lo≤H.next){lp:Nat}{s:St}{w t f zl sm mp:Value}(aC:H.objs.get lp=some (.row (gm s w t f zl (.pointer none) sm mp) none true))(hl:lp<H.next)(oL:H.lo≤lp)(csm:isCell sm=true)(cmp:isCell mp=true)(hS:eK H s w t f zl)(hc:s.cfg.Ok)(hw:(s.words.length:Int)=s.cfg.words)(hu:∀ x∈s.words,x<2^64)(ht:oo s):
  af E (aK 196) [ptr lp 0] H fun r H'=>r= .bool (decide ((cP s).2=0))∧mZ lp H H'∧∃ a rw m dK,Lk H' lp s w t f zl a rw m dK (cP s).1 (sE s)∧H.next≤a∧H.next≤rw∧H.next≤m:=by
 unfold gm at aC
 have kB:s.words≠[]∧s.words.length≤98304:=by
  unfold cj.words at hw
  rw[wF hc]at hw
  unfold cj.Ok at hc
  refine⟨fun e=>?_,by omega⟩
  rw[e]at hw
  simp at hw
  omega
 refine aV Tryz.f196 ?_
 simp only[Tryz.f196]
 simp(disch:=omega)only[↓aa,ab,simprocAttr,sa, *]
 refine(zaA H an w s.words hS.w kB.1 kB.2 hu).mono ?_
 rintro r H2 ⟨a,rw,rfl,hA,la,lrw,s2⟩
 have e2:=s2.objs lp hl;have l2:=s2.lo;have n2:=s2.ag
 have lA:=hA.la;have lW:=hA.lw
 repeat'(first|refine aw 2 [Fx,Fx,Fx,Fx,Fx,Fx,Fx,Fx,Fx,Fx,Fx,Fx,Fx,Fx,Tx,Fx,Fx,Fx,Fx,Fx,Fx,Fx,Fx,Fx,Fx,Fx] ?_|simp(disch:=omega)only[↓aa,ab,simprocAttr,sa,OG, *])
 refine vK (fun X eX=>?_)
 have bX:eL lp H X:=by rw[eX];exact eL.setRow ((s2.ko.bU _).iI lp) _
 have rX:X.objs.get lp=some (.row (gm s w t f zl (ptr a 0) sm mp) none true):=by rw[eX];simp(disch:=omega)only[ay,aN,az,aF,aE,aB,aM,aO,aQ,aP,aL,aD,aH,au,sl,gm]
 have AX:Ar X a rw rw s.words:=by
  rw[eX]
  exact⟨by simp(disch:=omega)only[ay,aN,az,aF,aE,aB,aM,aO,aQ,aP,aL,aD,aH,au,sl];exact hA.box,by simp(disch:=omega)only[ay,aN,az,aF,aE,aB,aM,aO,aQ,aP,aL,aD,aH,au,sl];exact hA.row,by simp(disch:=omega)only[ay,aN,az,aF,aE,aB,aM,aO,aQ,aP,aL,aD,aH,au,sl];exact hA.bK,hA.la,hA.lw,hA.lg,hA.ne,hA.u64,hA.len⟩
 have nX:X.next=H2.next:=by rw[eX];simp(disch:=omega)only[ay,aN,az,aF,aE,aB,aM,aO,aQ,aP,aL,aD,aH,au,sl]
 have lX:X.lo=H2.next:=by rw[eX];simp(disch:=omega)only[ay,aN,az,aF,aE,aB,aM,aO,aQ,aP,aL,aD,aH,au,sl]
 clear eX e2
 unfold gm at rX
 have qB:lp<X.next:=by omega
 repeat'(first|((with_reducible show af _ _ _ _ _);refine ao X (Ia _ ah s.cfg s.second) ?_;intro H2 k2 l2 n2 g2 q2;try simp(disch:=omega)only[sm,sl]at l2 n2 g2 q2)|simp(disch:=omega)only[↓aa,ab,simprocAttr,sa, *])
 refine(za2 (H2.bU H.lo) (by simp(disch:=omega)only[ay,aN,az,aF,aE,aB,aM,aO,aQ,aP,aL,aD,aH,au,sl];omega) (AX.same (k2.bU _)) (s.cfg.dz s.second) s.top).mono ?_
 rintro r H3 ⟨sv,rfl,⟨hsv,cG⟩,s3⟩
 have k3:Ko X H3:=(k2.bU H.lo).call s3
 have l3:=s3.lo;have n3:=k3.ag
 have e3:=k3.objs lp qB
 have A3:=AX.same k3
 have la3:=A3.la;have lw3:=A3.lw;have lg3:=A3.lg
 simp only[aH]at l3
 clear s3
 obtain⟨⟨iK,sc,rfl,⟨_,fF⟩,fH⟩,hsr⟩:=hsv
 simp(disch:=omega)only[↓aa,ab,simprocAttr,sa,OG,zaZ,za0,wbu,List.all_nil,wb8,wY,waA,pz,iR,vn,Av, *]
 refine Aj (fun T1 H1 eT eH=>?_)
 generalize Bw:(iJ s.words (s.cfg.dz s.second) s.top).1=small at*
 have r1:H1.objs.get lp=some (.row (gm s w t f zl (ptr a 0) (.slice iK small.length sc) (.map (some H3.next))) none true):=by rw[eH];simp(disch:=omega)only[ay,aN,az,aF,aE,aB,aM,aO,aQ,aP,aL,aD,aH,au,sl,gm,pz,iR]
 have m1:H1.objs.get H3.next=some (.map (fW [])):=by rw[eH];simp(disch:=omega)only[ay,aN,az,aF,aE,aB,aM,aO,aQ,aP,aL,aD,aH,au,sl,pz,iR];rfl
 have b1:eL lp H3 H1:=by rw[eH];exact eL.setRow (eL.setRow ((AI H3 _).ko.iI lp) _) _
 have n1:H1.next=H3.next+1:=by rw[eH];simp(disch:=omega)only[ay,aN,az,aF,aE,aB,aM,aO,aQ,aP,aL,aD,aH,au,sl,pz,iR]
 have l1:H1.lo=H.lo:=by rw[eH];simp(disch:=omega)only[ay,aN,az,aF,aE,aB,aM,aO,aQ,aP,aL,aD,aH,au,sl,pz,vn,l3]
 have t51:T1.get 51=some (.slice iK small.length sc):=by rw[eT];simp(disch:=omega)only[↓aa,ab,simprocAttr]
 have t52:T1.get 52=some (.int .i64 small.length):=by rw[eT];simp(disch:=omega)only[↓aa,ab,simprocAttr]
 have t53:T1.get 53=some (.int .i64 0):=by rw[eT];simp(disch:=omega)only[↓aa,ab,simprocAttr]
 have t0:T1.get 0=some (ptr lp 0):=by rw[eT];simp(disch:=omega)only[↓aa,ab,simprocAttr]
 have t4:T1.get 4=some (.int .i64 (iJ s.words (s.cfg.dz s.second) s.top).2):=by rw[eT];simp(disch:=omega)only[↓aa,ab,simprocAttr]
 clear eT eH
 simp only[aD]at cG
 have uM:∀ i (hi:i<small.length),∃r o cells g t,iK=some ⟨r,o,none⟩∧r<H3.next∧X.next≤r∧H3.objs.get r=some (.row cells g t)∧cells[o+i]? =some (.int .i64 small[i]):=fun i hi=>by
  obtain⟨r,o,cells,g,t,part,e,h1,h2,h3,h4⟩:=fH i small[i] (by simp)
  subst e
  rcases cG _ _ _ rfl with hn|⟨r',hr,hb⟩
  ·cases hn
  ·cases hr
   refine⟨r,0,cells,g,t,rfl,h1,by omega,h2,?_⟩
   rw[h4,waY]at h3
   exact Ez h3
 refine bL kq (fun nn T Y=>∃ i:Nat,nn=small.length-i∧i≤small.length∧T.get 53=some (.int .i64 i)∧T.get 51=some (.slice iK small.length sc)∧T.get 52=some (.int .i64 small.length)∧T.get 0=some (ptr lp 0)∧T.get 4=some (.int .i64 (iJ s.words (s.cfg.dz s.second) s.top).2)∧
  Y.objs.get H3.next=some (.map (fW ((small.take i).foldl oN [])))∧eL H3.next H1 Y∧Y.lo=H.lo) ⟨_,0,rfl,wJ _,t53,t51,t52,t0,t4,m1,(Ko.refl _).iI _,l1⟩ ?_
 rintro nn T Y ⟨i,rfl,hi,u53,u51,u52,u0,u4,mY,bY,lY⟩ Qs hQ aG ai
 have nY:=bY.ag
 have rY:=(bY.objs lp (by omega) (by omega)).trans r1
 unfold gm at rY
 by_cases hlt:i<small.length
 ·obtain⟨r,o,cells,g,t',rfl,h1,h2,h3,h4⟩:=uM i hlt
  have a1:=bn hlt
  have hrY:Y.objs.get r=some (.row cells g t'):=(bY.objs r (by omega) (by omega)).trans ((b1.objs r (by omega) (by omega)).trans h3)
  repeat'(first|(apply ak<;>intro)|((with_reducible show Qs _ _ _ _ _);refine ai _ _ _ _ ?_)|simp(disch:=omega)only[↓aa,ab,simprocAttr,sa,OC,OD, *])
  all_goals try omega
  refine hQ _ _ _ ?_ ⟨i+1,rfl,by omega,?_,?_,?_,?_,?_,?_,bY.setAt _,?_⟩
  ·omega
  iterate 5 exact aJ
  ·rw[iU,cr rfl,wR,wj hlt,List.foldl_append];rfl
  ·rw[yl];exact lY
 ·repeat'(first|(apply ak<;>intro)|((with_reducible show Qs _ _ _ _ _);refine ai _ _ _ _ ?_)|simp(disch:=omega)only[↓aa,ab,simprocAttr,sa, *])
  all_goals try omega
  have e0:i=small.length:=by omega
  rw[e0,waj]at mY
  have yX:SLr (RInt .i64) 1 H3 (.slice iK small.length sc) small:=⟨⟨iK,sc,rfl,⟨by assumption,fF⟩,fH⟩,hsr⟩
  refine⟨rfl,eL.HY (((bX.ko k3).trans b1).new bY (by omega)) lY,a,rw,H3.next,_,⟨rY,(A3.iI b1 (by omega) (by omega)).iI bY (by omega) (by omega),?_,?_,by omega⟩,by omega,by omega,by omega⟩
  ·show SLr (RInt .i64) 1 Y _ (iJ s.words (s.cfg.dz s.second) s.top).1
   rw[Bw]
   exact yX.fresh (fun _ _ _ _ h=>h) cG (fun r h1 h2=>(bY.objs r (by omega) (by omega)).trans (b1.objs r (by omega) (by omega))) (by omega)
  ·show Y.objs.get H3.next=some (.map (fW ((iJ s.words (s.cfg.dz s.second) s.top).1.foldl oN [])))
   rw[Bw]
   exact mY
theorem OH{ws:List Nat}{top:Int}:∀ (n:Nat) (p:Int),0≤p→∀ x∈gu (dF ws top n p),cy ws x=0∧0≤x∧x<ws.length
 |0,p,_,x,h=>by cases h
 |n+1,p,hp,x,h=>by
  rw[dF]at h
  split at h
  ·split at h
   ·rename_i h2
    have h3:=qU h2
    have h4:=vX h3.1
    simp only[gu,wce,wb0,wah,wbk,wad]at h
    rcases h with rfl|h
    ·exact⟨h3.1,hp,(kx h3.1).2.1⟩
    ·exact OH n _ (by omega) x h
   ·cases h
  ·cases h
theorem Bx(s:St):∀ x∈(cP s).1,cy s.words x=0∧0≤x∧x<s.words.length:=by
 intro x hx
 unfold cP iJ at hx
 split at hx
 ·exact OH _ _ (Io s.cfg s.second).1 x hx
 ·cases hx
def jL(s:St)(x:Int):Bool:=qT (aU s.words x)&&decide (s.cfg.Small (ct (aU s.words x)))
theorem za3(H:Heap)(an:H.lo≤H.next){lp a rw m:Nat}{s:St}{w t f zl dK:Value}{dE ks:List Int}(hk:Lk H lp s w t f zl a rw m dK dE ks)(hl:lp<H.next)(hb:∀ x∈dE, -9223372036854775808≤x∧x≤9223372036854775807):af E (aK 197) [ptr lp 0] H fun r H'=>r= .bool (dE.all (jL s))∧aq H H':=by
 have aC:=hk.row
 have hA:=hk.ar
 obtain⟨⟨iK,sc,rfl,⟨_,fF⟩,fH⟩, -⟩:=hk.small
 unfold gm at aC
 refine aV Tryz.f197 ?_
 simp only[Tryz.f197]
 simp(disch:=omega)only[↓aa,ab,simprocAttr,sa, *]
 refine bP H [0,10,11,12] (fun T1 H1 u1 k1 n1 l1 g1=>?_) aj
 try simp(disch:=omega)only[sm,sl]at n1 l1 g1
 simp only[sq,simprocAttr]at u1
 refine bL kq (fun nn T X=>∃ i:Nat,nn=dE.length-i∧(T.get 12=some (.int .i64 i))∧(T.get 0=T1.get 0∧T.get 10=T1.get 10∧T.get 11=T1.get 11)∧Ko H1 X∧X.lo=H1.lo∧(i≤dE.length∧dE.all (jL s)=(dE.drop i).all (jL s))) ?_ ?_
 ·refine⟨_,0,rfl,?_,?_,Ko.refl _,rfl,⟨wJ _,rfl⟩⟩<;>exact aJ
 rintro nn dA X1 ⟨i,rfl,m1,w1,kx1,eQ,⟨hi,hE⟩⟩ Qs hQ aG ai
 have bz:=k1.trans kx1;have dZ:=kx1.ag;have ed:=kx1.objs
 have e0:=bz.objs lp hl
 by_cases hlt:i<dE.length
 ·obtain⟨r,o,cells,gg,tt,part,rfl,hr,iF,aR,rfl⟩:=fH i dE[i] (by simp)
  rw[waY]at aR
  have aR:=Ez aR
  have a1:=bn hlt
  have e1:=bz.objs r hr
  have hx:=hb dE[i] (by simp)
  rw[wX hlt,wbu]at hE
  cases hq:qT (aU s.words dE[i])with
  |false=>
   have hn:dE.all (jL s)=false:=by rw[hE,jL,hq];rfl
   clear hE
   repeat'(first|(apply ak<;>intro)|refine aw 5 [Fx,Fx,Fx,Fx,Fx,Fx,Fx,Fx,Fx,Fx,Tx,Fx,Fx,Fx] ?_|((with_reducible show af _ _ _ _ _);(first|refine ao H1 (oM _ ah (hA.same aj) dE[i] hx) ?_|refine ao H1 (yW _ ah (aU s.words dE[i])) ?_);intro H2 k2 l2 n2 g2 q2;try simp(disch:=omega)only[sm,sl]at l2 n2 g2 q2)|((with_reducible show Qs _ _ _ _ _);first|refine ai _ _ _ _ ?_|refine aG _ _ _ ?_)|simp(disch:=omega)only[↓aa,ab,simprocAttr,sa,bO, *])
   all_goals try omega
   all_goals first
    |exact aA
    |(exact⟨rfl,aA⟩)
  |true=>
   by_cases Bw:s.cfg.Small (ct (aU s.words dE[i]))
   ·have hn:dE.all (jL s)=(dE.drop (i+1)).all (jL s):=by rw[hE,jL,hq,wz Bw];rfl
    clear hE
    repeat'(first|(apply ak<;>intro)|refine aw 5 [Fx,Fx,Fx,Fx,Fx,Fx,Fx,Fx,Fx,Fx,Tx,Fx,Fx,Fx] ?_|((with_reducible show af _ _ _ _ _);(first|refine ao H1 (oM _ ah (hA.same aj) dE[i] hx) ?_|refine ao H1 (yW _ ah (aU s.words dE[i])) ?_|refine ao H1 (qP _ ah (aU s.words dE[i])) ?_|refine ao H1 (Eo _ ah s.cfg (ct (aU s.words dE[i]))) ?_);intro H2 k2 l2 n2 g2 q2;try simp(disch:=omega)only[sm,sl]at l2 n2 g2 q2)|((with_reducible show Qs _ _ _ _ _);refine ai _ _ _ _ ?_)|simp(disch:=omega)only[↓aa,ab,simprocAttr,sa,bO, *])
    all_goals try omega
    refine hQ _ _ _ ?_ ⟨i+1,rfl,?_,?_,?_,?_,⟨by omega,hn⟩⟩<;>exact aJ
   ·have hn:dE.all (jL s)=false:=by rw[hE,jL,hq,wx Bw];rfl
    clear hE
    repeat'(first|(apply ak<;>intro)|refine aw 5 [Fx,Fx,Fx,Fx,Fx,Fx,Fx,Fx,Fx,Fx,Tx,Fx,Fx,Fx] ?_|((with_reducible show af _ _ _ _ _);(first|refine ao H1 (oM _ ah (hA.same aj) dE[i] hx) ?_|refine ao H1 (yW _ ah (aU s.words dE[i])) ?_|refine ao H1 (qP _ ah (aU s.words dE[i])) ?_|refine ao H1 (Eo _ ah s.cfg (ct (aU s.words dE[i]))) ?_);intro H2 k2 l2 n2 g2 q2;try simp(disch:=omega)only[sm,sl]at l2 n2 g2 q2)|((with_reducible show Qs _ _ _ _ _);first|refine ai _ _ _ _ ?_|refine aG _ _ _ ?_)|simp(disch:=omega)only[↓aa,ab,simprocAttr,sa,bO, *])
    all_goals try omega
    all_goals first
     |exact aA
     |(exact⟨rfl,aA⟩)
 ·have hn:dE.all (jL s)=true:=by rw[hE,waO (by omega)];rfl
  clear hE
  repeat'(first|(apply ak<;>intro)|((with_reducible show Qs _ _ _ _ _);refine ai _ _ _ _ ?_)|simp(disch:=omega)only[↓aa,ab,simprocAttr,sa, *])
  all_goals try omega
  all_goals first
   |exact aA
   |(exact⟨rfl,aA⟩)
def iL(ks:List Int)(x:Slot):Bool:= !x.used||fx ks x.word
theorem za4(H:Heap)(an:H.lo≤H.next){lp a rw m:Nat}{s:St}{w t f zl dK:Value}{dE ks:List Int}(hk:Lk H lp s w t f zl a rw m dK dE ks)(hl:lp<H.next)(hS:eK H s w t f zl)(hu:∀ x∈s.aI,x.word<2^64):af E (aK 201) [ptr lp 0] H fun r H'=>r= .bool (s.aI.all (iL ks))∧aq H H':=by
 have aC:=hk.row
 have hm:=hk.map
 have qV:=hk.lm
 obtain⟨⟨iK,sc,rfl,⟨_,fF⟩,fH⟩, -⟩:=hS.sl
 unfold gm at aC
 refine aV Tryz.f201 ?_
 simp only[Tryz.f201]
 simp(disch:=omega)only[↓aa,ab,simprocAttr,sa, *]
 refine bP H [0,9,10,11] (fun T1 H1 u1 k1 n1 l1 g1=>?_) aj
 try simp(disch:=omega)only[sm,sl]at n1 l1 g1
 simp only[sq,simprocAttr]at u1
 refine bL kq (fun nn T X=>∃ i:Nat,nn=s.aI.length-i∧(T.get 11=some (.int .i64 i))∧(T.get 0=T1.get 0∧T.get 9=T1.get 9∧T.get 10=T1.get 10)∧Ko H1 X∧X.lo=H1.lo∧(i≤s.aI.length∧s.aI.all (iL ks)=(s.aI.drop i).all (iL ks))) ?_ ?_
 ·refine⟨_,0,rfl,?_,?_,Ko.refl _,rfl,⟨wJ _,rfl⟩⟩<;>exact aJ
 rintro nn dA X1 ⟨i,rfl,m1,w1,kx1,eQ,⟨hi,hE⟩⟩ Qs hQ aG ai
 have bz:=k1.trans kx1;have dZ:=kx1.ag;have ed:=kx1.objs
 have e0:=bz.objs lp hl
 have e2:=bz.objs m qV
 by_cases hlt:i<s.aI.length
 ·obtain⟨r,o,cells,gg,tt,part,rfl,hr,iF,aR,rfl⟩:=fH i s.aI[i] (by simp)
  unfold qR at aR
  have a1:=bn hlt
  have e1:=bz.objs r hr
  have hw:=hu s.aI[i] (by simp)
  rw[wX hlt,wbu]at hE
  cases ni:s.aI[i].used with
  |false=>
   have hn:s.aI.all (iL ks)=(s.aI.drop (i+1)).all (iL ks):=by rw[hE,iL,ni];rfl
   clear hE
   repeat'(first|(apply ak<;>intro)|((with_reducible show Qs _ _ _ _ _);refine ai _ _ _ _ ?_)|simp(disch:=omega)only[↓aa,ab,simprocAttr,sa, *])
   all_goals try omega
   refine hQ _ _ _ ?_ ⟨i+1,rfl,?_,?_,?_,?_,⟨by omega,hn⟩⟩<;>exact aJ
  |true=>
   have fX:=fun(H0:Heap) (h0:H0.lo≤H0.next) (k:Ko H H0)=>OF H0 h0 ((k.objs lp hl).trans aC) rfl ((k.objs m qV).trans hm) (wq hl k.ag) (wq qV k.ag) s.aI[i].word hw
   cases uJ:fx ks s.aI[i].word with
   |true=>
    have hn:s.aI.all (iL ks)=(s.aI.drop (i+1)).all (iL ks):=by rw[hE,iL,ni,uJ];rfl
    clear hE
    repeat'(first|(apply ak<;>intro)|((with_reducible show af _ _ _ _ _);refine ao H1 (fX _ ah aj) ?_;intro H2 k2 l2 n2 g2 q2;try simp(disch:=omega)only[sm,sl]at l2 n2 g2 q2)|((with_reducible show Qs _ _ _ _ _);refine ai _ _ _ _ ?_)|simp(disch:=omega)only[↓aa,ab,simprocAttr,sa, *])
    all_goals try omega
    refine hQ _ _ _ ?_ ⟨i+1,rfl,?_,?_,?_,?_,⟨by omega,hn⟩⟩<;>exact aJ
   |false=>
    have hn:s.aI.all (iL ks)=false:=by rw[hE,iL,ni,uJ];rfl
    clear hE
    repeat'(first|(apply ak<;>intro)|((with_reducible show af _ _ _ _ _);refine ao H1 (fX _ ah aj) ?_;intro H2 k2 l2 n2 g2 q2;try simp(disch:=omega)only[sm,sl]at l2 n2 g2 q2)|((with_reducible show Qs _ _ _ _ _);first|refine ai _ _ _ _ ?_|refine aG _ _ _ ?_)|simp(disch:=omega)only[↓aa,ab,simprocAttr,sa, *])
    all_goals try omega
    all_goals first
     |exact aA
     |(exact⟨rfl,aA⟩)
 ·have hn:s.aI.all (iL ks)=true:=by rw[hE,waO (by omega)];rfl
  clear hE
  repeat'(first|(apply ak<;>intro)|((with_reducible show Qs _ _ _ _ _);refine ai _ _ _ _ ?_)|simp(disch:=omega)only[↓aa,ab,simprocAttr,sa, *])
  all_goals try omega
  all_goals first
   |exact aA
   |(exact⟨rfl,aA⟩)
structure Gn where
 kind:Int
 fields:List bu
 bC:List Nat
 deriving DecidableEq
structure Gr where
 nodes:List Gn
 roots:List bu
 deriving DecidableEq
def dM:List Nat→List bu→List Nat
 |l,[]=>l
 |l,v::vs=>if v.kind=2∧v.x.toNat∉l then dM (l++[v.x.toNat]) vs else dM l vs
def lH(g:Gr)(i:Nat):List bu:=match g.nodes[i]? with
 |some n=>n.fields
 |none=>[]
theorem zF{g:Gr}{i:Nat}{n:Gn}(h:g.nodes[i]? =some n):lH g i=n.fields:=by unfold lH;rw[h]
inductive pZ(g:Gr):List Nat→Nat→List Nat→Prop
 |done {l:List Nat} {k:Nat} (h:¬ k<l.length):pZ g l k l
 |step {l o:List Nat} {k i:Nat} (h:l[k]? =some i) (r:pZ g (dM l (lH g i)) (k+1) o):pZ g l k o
def Order(g:Gr)(o:List Nat):Prop:=pZ g (dM [] g.roots) 0 o
def iY(o:List Nat)(v:bu):bu:=if v.kind=2 then⟨2,(o.idxOf v.x.toNat:Nat)⟩else v
def Ju(g:Gr)(o:List Nat)(i:Nat):Gn:=match g.nodes[i]? with
 |some n=>⟨n.kind,n.fields.map (iY o),n.bC⟩
 |none=>⟨0,[],[]⟩
theorem Cd{g:Gr}{o:List Nat}{i:Nat}{n:Gn}(h:g.nodes[i]? =some n):Ju g o i=⟨n.kind,n.fields.map (iY o),n.bC⟩:=by unfold Ju;rw[h]
def fz(g:Gr)(o:List Nat):Gr:=⟨o.map (Ju g o),g.roots.map (iY o)⟩
def xx(n:Nat)(l:List bu):Prop:=∀ v∈l,v.kind=2→0≤v.x∧v.x.toNat<n
structure kL(g:Gr):Prop where
 roots:xx g.nodes.length g.roots
 node:∀ n∈g.nodes,xx g.nodes.length n.fields
theorem kL.lH{g:Gr}(h:kL g)(i:Nat):xx g.nodes.length (lH g i):=by
 unfold AM.lH
 split
 ·rename_i n hn;exact h.node n (wag hn)
 ·intro v hv;cases hv
theorem xE(x:Nat):∀ (vs:List bu) (l:List Nat),x∈dM l vs↔x∈l∨∃ v∈vs,v.kind=2∧v.x.toNat=x
 |[],l=>by simp[dM]
 |v::vs,l=>by
  unfold dM
  split
  ·rename_i h
   rw[xE x vs]
   simp only[waI,wad,exists_eq_or_imp,wbb,wck]
   constructor
   ·rintro((h1|h1)|h1)
    ·exact .inl h1
    ·exact .inr (.inl ⟨h.1,h1.symm⟩)
    ·exact .inr (.inr h1)
   ·rintro(h1|h1|h1)
    ·exact .inl (.inl h1)
    ·exact .inl (.inr h1.2.symm)
    ·exact .inr h1
  ·rename_i h
   rw[xE x vs]
   simp only[wad,exists_eq_or_imp]
   constructor
   ·rintro(h1|h1)
    ·exact .inl h1
    ·exact .inr (.inr h1)
   ·rintro(h1|h1|h1)
    ·exact .inl h1
    ·exact .inl (wbK fun h2=>h ⟨h1.1,by rw[h1.2];exact h2⟩)
    ·exact .inr h1
theorem sV:∀ (vs:List bu) (l:List Nat),l.Nodup→(dM l vs).Nodup
 |[],_,h=>h
 |v::vs,l,h=>by
  unfold dM
  split
  ·rename_i h1
   refine sV vs _ (List.nodup_append.2 ⟨h,List.nodup_cons.2 ⟨wbb,wbv⟩,fun a ha b hb e=>?_⟩)
   rw[waG]at hb
   exact h1.2 (by rw[←hb,←e];exact ha)
  ·exact sV vs l h
theorem E7:∀ (vs:List bu) (l:List Nat),l <+: dM l vs
 |[],l=>List.prefix_rfl
 |v::vs,l=>by
  unfold dM
  split
  ·exact(List.prefix_append l _).trans (E7 vs _)
  ·exact E7 vs l
structure QB(g:Gr)(o:List Nat):Prop where
 nodup:o.Nodup
 lt:∀ i∈o,i<g.nodes.length
 root:∀ v∈g.roots,v.kind=2→v.x.toNat∈o
 field:∀ i∈o,∀v∈lH g i,v.kind=2→v.x.toNat∈o
theorem zhh{g:Gr}(hg:kL g){l o:List Nat}{k:Nat}(h:pZ g l k o)(h1:l.Nodup)(h2:∀ i∈l,i<g.nodes.length)(h3:∀ j i,j<k→l[j]? =some i→∀ v∈lH g i,v.kind=2→v.x.toNat∈l):
  l <+: o∧o.Nodup∧(∀i∈o,i<g.nodes.length)∧∀ i∈o,∀v∈lH g i,v.kind=2→v.x.toNat∈o:=by
 induction h with
 |done h=>
  refine⟨List.prefix_rfl,h1,h2,fun i hi=>?_⟩
  obtain⟨j,hj,rfl⟩:=wbL.1 hi
  exact h3 j _ (by omega) (wj hj)
 |@step l o k i hk r ih=>
  have hp:=E7 (lH g i) l
  have:=ih (sV _ _ h1) (fun x hx=>by
   rcases(xE x _ _).1 hx with hx|⟨v,hv,e1,e2⟩
   ·exact h2 x hx
   ·rw[←e2];exact(hg.lH i v hv e1).2) (fun j x hj hx v hv e=>by
   rw[xE]
   obtain⟨m,hm⟩:=hp
   have mP:=(wD.1 hk).1
   have cu:l[j]? =some x:=by rw[←hm,waf (by omega)]at hx;exact hx
   by_cases ej:j=k
   ·subst ej
    rw[hk]at cu
    cases cu
    exact .inr ⟨v,hv,e,rfl⟩
   ·exact .inl (h3 j x (by omega) cu v hv e))
  exact⟨hp.trans this.1,this.2⟩
theorem Ce{g:Gr}(hg:kL g){o:List Nat}(h:Order g o):QB g o:=by
 have:=zhh hg h (sV _ _ wbv) (fun i hi=>by
  rcases(xE i _ _).1 hi with hi|⟨v,hv,e1,e2⟩
  ·cases hi
  ·rw[←e2];exact(hg.roots v hv e1).2) (fun j i hj=>by omega)
 refine⟨this.2.1,this.2.2.1,fun v hv e=>?_,this.2.2.2⟩
 exact this.1.subset ((xE _ _ _).2 (.inr ⟨v,hv,e,rfl⟩))
def RL{α β:Type}(R:α→β→Prop)(l:List α)(m:List β):Prop:=l.length=m.length∧∀ (t:Nat) i k,l[t]? =some i→m[t]? =some k→R i k
theorem RL.nil{α β:Type}{R:α→β→Prop}:RL R [] []:=⟨rfl,fun t i k h=>by simp at h⟩
theorem RL.cons{α β:Type}{R:α→β→Prop}{x:α}{y:β}{l:List α}{m:List β}(h:R x y)(h':RL R l m):RL R (x::l) (y::m):=by
 refine⟨by rw[wY,wY,h'.1],fun t i k h1 h2=>?_⟩
 cases t with
 |zero=>simp only[wQ,wi]at h1 h2;rw[←h1,←h2];exact h
 |succ t=>exact h'.2 t i k (by simpa using h1) (by simpa using h2)
theorem RL.cons_inv{α β:Type}{R:α→β→Prop}{x:α}{l:List α}{m:List β}(h:RL R (x::l) m):∃ y m',m=y::m'∧R x y∧RL R l m':=by
 cases m with
 |nil=>exact absurd h.1 (by simp)
 |cons y m=>exact⟨y,m,rfl,h.2 0 x y rfl rfl,by simpa using h.1,fun t i k h1 h2=>h.2 (t+1) i k (by simpa using h1) (by simpa using h2)⟩
theorem RL.mono{α β:Type}{R S:α→β→Prop}{l:List α}{m:List β}(h:RL R l m)(hs:∀ i k,R i k→S i k):RL S l m:=⟨h.1,fun t i k h1 h2=>hs _ _ (h.2 t i k h1 h2)⟩
theorem RL.snoc{α β:Type}{R:α→β→Prop}{x:α}{y:β}{l:List α}{m:List β}(h':RL R l m)(h:R x y):RL R (l++[x]) (m++[y]):=by
 induction l generalizing m with
 |nil=>
  have:m=[]:=wac h'.1.symm
  subst this;exact .cons h .nil
 |cons a l ih=>
  obtain⟨b,m',rfl,h1,h2⟩:=h'.cons_inv
  exact .cons h1 (ih h2)
def lF(R:Nat→Nat→Prop)(u v:bu):Prop:=u.kind=v.kind∧(u.kind=2→R u.x.toNat v.x.toNat)∧(u.kind≠2→u=v)
def zG(a b:Gr)(R:Nat→Nat→Prop)(i k:Nat):Prop:=∃ x y,a.nodes[i]? =some x∧b.nodes[k]? =some y∧x.kind=y.kind∧x.bC=y.bC∧RL (lF R) x.fields y.fields
theorem lF.mono{R S:Nat→Nat→Prop}(h:∀ i k,R i k→S i k){u v:bu}(hu:lF R u v):lF S u v:=⟨hu.1,fun e=>h _ _ (hu.2.1 e),hu.2.2⟩
theorem zG.mono{a b:Gr}{R S:Nat→Nat→Prop}(h:∀ i k,R i k→S i k){i k:Nat}(hu:zG a b R i k):zG a b S i k:=by
 obtain⟨x,y,h1,h2,h3,h4,h5⟩:=hu
 exact⟨x,y,h1,h2,h3,h4,h5.mono fun _ _=>lF.mono h⟩
def Cf(R:Nat→Nat→Prop):Prop:=∀ i k i' k',R i k→R i' k'→(i=i'↔k=k')
structure xF(a b:Gr)(R:Nat→Nat→Prop):Prop where
 roots:RL (lF R) a.roots b.roots
 node:∀ i k,R i k→zG a b R i k
 inj:Cf R
theorem zhi{R:Nat→Nat→Prop}(hi:Cf R){l m:List Nat}(h:RL R l m){i k:Nat}(hr:R i k):i∈l↔k∈m:=by
 constructor
 ·intro h1
  obtain⟨t,ht,rfl⟩:=wbL.1 h1
  have jh:t<m.length:=by rw[←h.1];exact ht
  have:=h.2 t _ _ (wj ht) (wj jh)
  rw[(hi _ _ _ _ hr this).1 rfl]
  exact wam jh
 ·intro h1
  obtain⟨t,ht,rfl⟩:=wbL.1 h1
  have jh:t<l.length:=by rw[h.1];exact ht
  have:=h.2 t _ _ (wj jh) (wj ht)
  rw[(hi _ _ _ _ hr this).2 rfl]
  exact wam jh
theorem QC{R:Nat→Nat→Prop}(hi:Cf R):∀ {l m:List Nat},RL R l m→∀ {i k:Nat},R i k→l.idxOf i=m.idxOf k
 |[],m,h,i,k,_=>by
  have:m=[]:=wac h.1.symm
  subst this;rfl
 |x::l,m,h,i,k,hr=>by
  obtain⟨y,m',rfl,h1,h2⟩:=h.cons_inv
  rw[wb3,wb3,QC hi h2 hr]
  have:=hi _ _ _ _ h1 hr
  by_cases e:x=i
  ·rw[wbO.2 e,wbO.2 (this.1 e)]
  ·rw[beq_eq_false_iff_ne.2 e,beq_eq_false_iff_ne.2 fun q=>e (this.2 q)]
theorem Cg{R:Nat→Nat→Prop}(hi:Cf R):∀ {vs ws:List bu} {l m:List Nat},RL (lF R) vs ws→RL R l m→RL R (dM l vs) (dM m ws)
 |[],ws,l,m,h,h'=>by
  have:ws=[]:=wac h.1.symm
  subst this;exact h'
 |v::vs,ws,l,m,h,h'=>by
  obtain⟨w,yQ,rfl,h1,h2⟩:=h.cons_inv
  unfold dM
  by_cases hk:v.kind=2
  ·have hr:=h1.2.1 hk
   have hm:=zhi hi h' hr
   by_cases cf:v.x.toNat∈l
   ·rw[wI (fun q=>q.2 cf),wI (fun q=>q.2 (hm.1 cf))]
    exact Cg hi h2 h'
   ·rw[wF ⟨hk,cf⟩,wF ⟨by rw[←h1.1];exact hk,fun q=>cf (hm.2 q)⟩]
    exact Cg hi h2 (h'.snoc hr)
  ·rw[wI (fun q=>hk q.1),wI (fun q=>hk (by rw[h1.1];exact q.1))]
   exact Cg hi h2 h'
theorem zhj{a b:Gr}{R:Nat→Nat→Prop}(h:xF a b R){l o:List Nat}{k:Nat}(h1:pZ a l k o):∀ {m p:List Nat},pZ b m k p→RL R l m→RL R o p:=by
 induction h1 with
 |done hk=>
  intro m p h2 hr
  cases h2 with
  |done _=>exact hr
  |step dL _=>exact absurd (wD.1 dL).1 (by rw[←hr.1];exact hk)
 |@step l o k i hk r ih=>
  intro m p h2 hr
  cases h2 with
  |done dL=>exact absurd (wD.1 hk).1 (by rw[hr.1];exact dL)
  |step dL r2=>
   obtain⟨x,y,e1,e2,_,_,hf⟩:=h.node _ _ (hr.2 _ _ _ hk dL)
   refine ih r2 (Cg h.inj ?_ hr)
   rw[zF e1,zF e2]
   exact hf
theorem QD{a b:Gr}{R:Nat→Nat→Prop}(h:xF a b R){o p:List Nat}(h1:Order a o)(h2:Order b p):RL R o p:=zhj h h1 h2 (Cg h.inj h.roots .nil)
theorem Jv{R:Nat→Nat→Prop}(hi:Cf R){o p:List Nat}(ho:RL R o p):∀ {vs ws:List bu},RL (lF R) vs ws→vs.map (iY o)=ws.map (iY p)
 |[],ws,h=>by
  have:ws=[]:=wac h.1.symm
  subst this;rfl
 |v::vs,ws,h=>by
  obtain⟨w,yQ,rfl,h1,h2⟩:=h.cons_inv
  rw[wbk,wbk,Jv hi ho h2]
  congr 1
  unfold iY
  by_cases hk:v.kind=2
  ·rw[wF hk,wF (by rw[←h1.1];exact hk),QC hi ho (h1.2.1 hk)]
  ·rw[wI hk,wI (by rw[←h1.1];exact hk),h1.2.2 hk]
theorem zhk{a b:Gr}{R:Nat→Nat→Prop}(h:xF a b R){o p:List Nat}(h1:Order a o)(h2:Order b p):fz a o=fz b p:=by
 have hr:=QD h h1 h2
 unfold fz
 rw[Jv h.inj hr h.roots]
 congr 1
 refine waR fun t=>?_
 rw[war,war]
 by_cases ht:t<o.length
 ·have jh:t<p.length:=by rw[←hr.1];exact ht
  rw[wj ht,wj jh,waE,waE]
  obtain⟨x,y,e1,e2,e3,e4,hf⟩:=h.node _ _ (hr.2 t _ _ (wj ht) (wj jh))
  rw[Cd e1,Cd e2,e3,e4,Jv h.inj hr hf]
 ·rw[wak (by omega),wak (by rw[←hr.1];omega)];rfl
def QE(o p:List Nat)(i k:Nat):Prop:=∃ t:Nat,o[t]? =some i∧p[t]? =some k
theorem QF{o:List Nat}(h:o.Nodup){t t':Nat}{i:Nat}(h1:o[t]? =some i)(h2:o[t']? =some i):t=t':=by
 obtain⟨l1,e1⟩:=wD.1 h1
 obtain⟨l2,e2⟩:=wD.1 h2
 exact(List.getElem_inj h).1 (e1.trans e2.symm)
theorem Jw{o:List Nat}{i:Nat}(h:i∈o):o[o.idxOf i]? =some i:=by
 have:=wb6 h
 rw[wj this,List.getElem_idxOf this]
theorem Jx{o p:List Nat}:∀ {vs ws:List bu},(∀v∈vs,v.kind=2→v.x.toNat∈o)→(∀v∈ws,v.kind=2→v.x.toNat∈p)→vs.map (iY o)=ws.map (iY p)→RL (lF (QE o p)) vs ws
 |[],ws,_,_,h=>by
  have:ws=[]:=by simpa using h.symm
  subst this;exact .nil
 |v::vs,ws,h1,h2,h=>by
  cases ws with
  |nil=>simp at h
  |cons w ws=>
   simp only[wbk,wbQ]at h
   refine .cons ?_ (Jx (fun x hx=>h1 x (wM _ hx)) (fun x hx=>h2 x (wM _ hx)) h.2)
   have h3:=h.1
   unfold iY at h3
   by_cases hk:v.kind=2
   ·by_cases hw:w.kind=2
    ·rw[wF hk,wF hw,bu.mk.injEq]at h3
     have hi:o.idxOf v.x.toNat=p.idxOf w.x.toNat:=by have:=h3.2;omega
     have m1:=Jw (h1 v (wW ..) hk)
     have m2:=Jw (h2 w (wW ..) hw)
     exact⟨by rw[hk,hw],fun _=>⟨_,m1,by rw[hi];exact m2⟩,fun q=>absurd hk q⟩
    ·rw[wF hk,wI hw]at h3
     exact absurd (by rw[←h3]) hw
   ·by_cases hw:w.kind=2
    ·rw[wI hk,wF hw]at h3
     exact absurd (by rw[h3]) hk
    ·rw[wI hk,wI hw]at h3
     exact⟨by rw[h3],fun q=>absurd q hk,fun _=>h3⟩
theorem QG{a b:Gr}(ha:kL a)(hb:kL b){o p:List Nat}(h1:Order a o)(h2:Order b p)(h:fz a o=fz b p):xF a b (QE o p):=by
 have k1:=Ce ha h1
 have k2:=Ce hb h2
 unfold fz at h
 simp only[Gr.mk.injEq]at h
 refine⟨Jx k1.root k2.root h.2,fun i k ⟨t,e1,e2⟩=>?_,fun i k i' k' ⟨t,e1,e2⟩ ⟨t',Jy,Jz⟩=>⟨fun q=>?_,fun q=>?_⟩⟩
 ·have h3:=congrArg (fun l=>l[t]?) h.1
  simp only[war,e1,e2,waE,wi]at h3
  have hi:=k1.lt i (wag e1)
  have hk:=k2.lt k (wag e2)
  have f1:=k1.field i (wag e1)
  have f2:=k2.field k (wag e2)
  rw[Cd (wj hi),Cd (wj hk)]at h3
  simp only[Gn.mk.injEq]at h3
  rw[zF (wj hi)]at f1
  rw[zF (wj hk)]at f2
  exact⟨_,_,wj hi,wj hk,h3.1,h3.2.2,Jx f1 f2 h3.2.1⟩
 ·subst q
  have:=QF k1.nodup e1 Jy
  subst this
  rw[e2]at Jz
  exact waH Jz
 ·subst q
  have:=QF k2.nodup e2 Jz
  subst this
  rw[e1]at Jy
  exact waH Jy
theorem zH:∀ (n:Nat) (l:List Nat),l.Nodup→(∀x∈l,x<n)→l.length≤n
 |0,l,_,h=>by
  cases l with
  |nil=>exact wy _
  |cons x l=>exact absurd (h x (wW ..)) (Nat.not_lt_zero _)
 |n+1,l,hn,h=>by
  have h1:=zH n (l.erase n) (hn.erase n) fun x hx=>by
   have:=(hn.mem_erase_iff).1 hx
   have:=h x this.2
   omega
  by_cases hm:n∈l
  ·rw[List.length_erase_of_mem hm]at h1;omega
  ·rw[List.erase_of_not_mem hm]at h1;omega
theorem Ch{n:Nat}{vs:List bu}{l:List Nat}(hv:xx n vs)(h:∀ x∈l,x<n):∀ x∈dM l vs,x<n:=fun x hx=>by
 rcases(xE x vs l).1 hx with h1|⟨v,h1,h2,h3⟩
 ·exact h x h1
 ·rw[←h3];exact(hv v h1 h2).2
theorem JA:∀ (vs ws:List bu) (l:List Nat),dM l (vs++ws)=dM (dM l vs) ws
 |[],_,_=>rfl
 |v::vs,ws,l=>by
  show(if v.kind=2∧v.x.toNat∉l then dM (l++[v.x.toNat]) (vs++ws)else dM l (vs++ws))=dM (if v.kind=2∧v.x.toNat∉l then dM (l++[v.x.toNat]) vs else dM l vs) ws
  split
  ·exact JA vs ws _
  ·exact JA vs ws _
theorem zhl(l:List Nat)(v:bu):dM l [v]=if v.kind=2∧v.x.toNat∉l then l++[v.x.toNat]else l:=rfl
def ny(n:Nat)(v:bu):Prop:=v.Ok∧(v.kind=2→v.x<n)
structure jT(g:Gr):Prop where
 node:∀ x∈g.nodes,0≤x.kind∧x.kind≤31∧x.fields.length≤4096∧x.bC.length≤4096∧∀ v∈x.fields,ny g.nodes.length v
 root:∀ v∈g.roots,ny g.nodes.length v
theorem jT.right{g:Gr}(h:jT g):kL g:=by
 have key:∀ v,ny g.nodes.length v→v.kind=2→0≤v.x∧v.x.toNat<g.nodes.length:=fun v hv hk=>by
  have h1:=hv.1
  have h2:=hv.2 hk
  unfold bu.Ok at h1
  omega
 exact⟨fun v hv=>key v (h.root v hv),fun x hx v hv=>key v ((h.node x hx).2.2.2.2 v hv)⟩
def RT(To:List Int)(i k:Nat):Prop:=To[i]? =some (k:Int)
structure mq(a b:Gr)(To At:List Int):Prop where
 tl:To.length=a.nodes.length
 al:At.length=b.nodes.length
 both:∀ i k:Nat,To[i]? =some (k:Int)↔At[k]? =some (i:Int)
 to:∀ (i:Nat) (x:Int),To[i]? =some x→x= -1∨∃ k:Nat,x=k
 ae:∀ (k:Nat) (x:Int),At[k]? =some x→x= -1∨∃ i:Nat,x=i
structure kK(a b:Gr)(To At:List Int)(xs ys:List bu)(To' At':List Int)(bad:Bool):Prop where
 inv:mq a b To' At'
 ext:∀ i k,RT To i k→RT To' i k
 ok:bad=false→RL (lF (RT To')) xs ys∧∀ i k,RT To' i k→¬ RT To i k→zG a b (RT To') i k
 sub:∀ R,xF a b R→(∀i k,RT To i k→R i k)→RL (lF R) xs ys→bad=false∧∀ i k,RT To' i k→R i k
structure xy(a b:Gr)(To At:List Int)(i k:Nat)(To' At':List Int)(bad:Bool):Prop where
 inv:mq a b To' At'
 ext:∀ i k,RT To i k→RT To' i k
 ok:bad=false→RT To' i k∧∀ i k,RT To' i k→¬ RT To i k→zG a b (RT To') i k
 sub:∀ R,xF a b R→(∀i k,RT To i k→R i k)→R i k→bad=false∧∀ i k,RT To' i k→R i k
section
variable{a b:Gr}{To At:List Int}
theorem zgI{xs ys:List bu}(h:mq a b To At)(hl:xs.length≠ys.length):kK a b To At xs ys To At true:=
 ⟨h,fun _ _ h=>h,fun e=>(by cases e),fun _ _ _ h3=>absurd h3.1 hl⟩
theorem zgE(h:mq a b To At):kK a b To At [] [] To At false:=
 ⟨h,fun _ _ h=>h,fun _=>⟨.nil,fun _ _ h1 h2=>absurd h1 h2⟩,fun _ _ h2 _=>⟨rfl,h2⟩⟩
theorem JB{R:Nat→Nat→Prop}{xs ys:List bu}{u v:bu}(h:RL (lF R) (xs++[u]) (ys++[v])):RL (lF R) xs ys∧lF R u v:=by
 have hl:xs.length=ys.length:=by have:=h.1;simp only[wN,wY,waA]at this;omega
 refine⟨⟨hl,fun t i k e1 e2=>h.2 t i k (by rw[waf (wD.1 e1).1];exact e1) (by rw[waf (wD.1 e2).1];exact e2)⟩,?_⟩
 refine h.2 xs.length u v (by simp) ?_
 rw[hl];simp
theorem zgF{xs ys:List bu}{To' At':List Int}{u v:bu}(h:kK a b To At xs ys To' At' false)(hd:u.kind≠v.kind∨u.kind≠2∧u≠v):kK a b To At (xs++[u]) (ys++[v]) To' At' true:=
 ⟨h.inv,h.ext,fun e=>(by cases e),fun R _ _ h3=>by
  have:=(JB h3).2
  rcases hd with hd|⟨h4,h5⟩
  ·exact absurd this.1 hd
  ·exact absurd (this.2.2 h4) h5⟩
theorem zgH{xs ys:List bu}{To' At':List Int}{u:bu}(h:kK a b To At xs ys To' At' false)(hk:u.kind≠2):kK a b To At (xs++[u]) (ys++[u]) To' At' false:=
 ⟨h.inv,h.ext,fun e=>⟨(h.ok e).1.snoc ⟨rfl,fun q=>absurd q hk,fun _=>rfl⟩,(h.ok e).2⟩,fun R h1 h2 h3=>h.sub R h1 h2 (JB h3).1⟩
theorem zgG{xs ys:List bu}{To' At' QH QI:List Int}{u v:bu}{bad:Bool}(h:kK a b To At xs ys To' At' false)(hk:u.kind=2)(hv:v.kind=2)(hp:xy a b To' At' u.x.toNat v.x.toNat QH QI bad):kK a b To At (xs++[u]) (ys++[v]) QH QI bad:=
 ⟨hp.inv,fun i k e=>hp.ext i k (h.ext i k e),fun e=>by
  obtain⟨h1,h2⟩:=hp.ok e
  obtain⟨h3,h4⟩:=h.ok rfl
  refine⟨(h3.mono fun _ _=>lF.mono hp.ext).snoc ⟨by rw[hk,hv],fun _=>h1,fun q=>absurd hk q⟩,fun i k e1 e2=>?_⟩
  by_cases e3:RT To' i k
  ·exact(h4 i k e3 e2).mono hp.ext
  ·exact h2 i k e1 e3,fun R h1 h2 h3=>by
  obtain⟨h4,h5⟩:=JB h3
  obtain⟨_,h6⟩:=h.sub R h1 h2 h4
  exact hp.sub R h1 h6 (h5.2.1 hk)⟩
theorem zgB{i k:Nat}(h:mq a b To At)(hr:RT To i k):xy a b To At i k To At false:=
 ⟨h,fun _ _ h=>h,fun _=>⟨hr,fun _ _ h1 h2=>absurd h1 h2⟩,fun _ _ h2 _=>⟨rfl,h2⟩⟩
theorem P9{i k:Nat}(h:mq a b To At)(hn:¬ RT To i k)(hc:(∃k':Nat,RT To i k')∨∃ i':Nat,At[k]? =some (i':Int)):xy a b To At i k To At true:=
 ⟨h,fun _ _ h=>h,fun e=>(by cases e),fun R h1 h2 h3=>by
  rcases hc with⟨k',hk⟩|⟨i',hi⟩
  ·have:=(h1.inj _ _ _ _ (h2 _ _ hk) h3).1 rfl
   subst this;exact absurd hk hn
  ·have nW:=(h.both i' k).2 hi
   have:=(h1.inj _ _ _ _ (h2 _ _ nW) h3).2 rfl
   subst this;exact absurd nW hn⟩
theorem E8(l:List Int)(i j:Nat)(x:Int):(l.set i x)[j]? =if i=j∧j<l.length then some x else l[j]? :=by
 rw[wca]
 by_cases h:i=j
 ·subst h
  by_cases h2:i<l.length
  ·simp[h2]
  ·simp[h2]
 ·simp[h]
theorem Ji{i k:Nat}(h:mq a b To At)(h1:To[i]? =some (-1))(h2:At[k]? =some (-1)):mq a b (To.set i k) (At.set k i)∧(∀x y,RT (To.set i k) x y↔RT To x y∨x=i∧y=k):=by
 have hi:=(wD.1 h1).1
 have hk:=(wD.1 h2).1
 have e:∀ x y,RT (To.set i k) x y↔RT To x y∨x=i∧y=k:=fun x y=>by
  unfold RT
  rw[E8]
  split
  ·rename_i hc
   obtain⟨rfl,_⟩:=hc
   rw[h1]
   simp only[wi]
   constructor
   ·intro q;exact .inr ⟨by first|rfl|trivial,by omega⟩
   ·rintro(q|⟨_,rfl⟩)
    ·omega
    ·rfl
  ·rename_i hc
   constructor
   ·exact .inl
   ·rintro(q|⟨rfl,rfl⟩)
    ·exact q
    ·exact absurd ⟨rfl,hi⟩ hc
 have e2:∀ x y:Nat,(At.set k i)[y]? =some (x:Int)↔At[y]? =some (x:Int)∨x=i∧y=k:=fun x y=>by
  rw[E8]
  split
  ·rename_i hc
   obtain⟨rfl,_⟩:=hc
   rw[h2]
   simp only[wi]
   constructor
   ·intro q;exact .inr ⟨by omega,by first|rfl|trivial⟩
   ·rintro(q|⟨rfl,_⟩)
    ·omega
    ·rfl
  ·rename_i hc
   constructor
   ·exact .inl
   ·rintro(q|⟨rfl,rfl⟩)
    ·exact q
    ·exact absurd ⟨rfl,hk⟩ hc
 refine⟨⟨by rw[wcn];exact h.tl,by rw[wcn];exact h.al,fun x y=>?_,fun x v hv=>?_,fun x v hv=>?_⟩,e⟩
 ·rw[e2 x y,←h.both x y]
  exact e x y
 ·rw[E8]at hv
  split at hv
  ·cases hv;exact .inr ⟨k,rfl⟩
  ·exact h.to x v hv
 ·rw[E8]at hv
  split at hv
  ·cases hv;exact .inr ⟨i,rfl⟩
  ·exact h.ae x v hv
theorem Qa{i k:Nat}{x y:Gn}(h:mq a b To At)(h1:To[i]? =some (-1))(h2:At[k]? =some (-1))(hx:a.nodes[i]? =some x)(hy:b.nodes[k]? =some y)(hd:x.kind≠y.kind∨x.bC≠y.bC):xy a b To At i k (To.set i k) (At.set k i) true:=by
 obtain⟨hi,he⟩:=Ji h h1 h2
 refine⟨hi,fun p q e=>(he p q).2 (.inl e),fun e=>(by cases e),fun R r1 _ r3=>?_⟩
 obtain⟨x',y',e1,e2,e3,e4,_⟩:=r1.node i k r3
 rw[hx]at e1;rw[hy]at e2
 cases e1;cases e2
 rcases hd with hd|hd
 ·exact absurd e3 hd
 ·exact absurd e4 hd
theorem zgD{i k:Nat}{x y:Gn}{To' At':List Int}{bad:Bool}(h:mq a b To At)(h1:To[i]? =some (-1))(h2:At[k]? =some (-1))(hx:a.nodes[i]? =some x)(hy:b.nodes[k]? =some y)(hk:x.kind=y.kind)(hw:x.bC=y.bC)
  (hv:kK a b (To.set i k) (At.set k i) x.fields y.fields To' At' bad):xy a b To At i k To' At' bad:=by
 obtain⟨hi,he⟩:=Ji h h1 h2
 have Lx:=(he i k).2 (.inr ⟨rfl,rfl⟩)
 refine⟨hv.inv,fun p q e=>hv.ext p q ((he p q).2 (.inl e)),fun e=>⟨hv.ext _ _ Lx,fun p q e1 e2=>?_⟩,fun R r1 r2 r3=>?_⟩
 ·obtain⟨h3,h4⟩:=hv.ok e
  by_cases e3:RT (To.set i k) p q
  ·rcases(he p q).1 e3 with e4|⟨rfl,rfl⟩
   ·exact absurd e4 e2
   ·exact⟨x,y,hx,hy,hk,hw,h3⟩
  ·exact h4 p q e1 e3
 ·obtain⟨x',y',e1,e2,e3,e4,e5⟩:=r1.node i k r3
  rw[hx]at e1;rw[hy]at e2
  cases e1;cases e2
  exact hv.sub R r1 (fun p q e=>by
   rcases(he p q).1 e with e6|⟨rfl,rfl⟩
   ·exact r2 p q e6
   ·exact r3) e5
end
theorem zgQ(a b:Gr):mq a b (List.replicate a.nodes.length (-1)) (List.replicate b.nodes.length (-1)):=by
 have h:∀ (n i:Nat) (x:Int),(List.replicate n (-1:Int))[i]? =some x→x= -1:=fun n i x e=>by
  rw[List.getElem?_replicate]at e
  split at e
  ·cases e;rfl
  ·cases e
 exact⟨wbn,wbn,fun i k=>⟨fun e=>(by have:=h _ _ _ e;omega),fun e=>(by have:=h _ _ _ e;omega)⟩,fun i x e=> .inl (h _ _ _ e),fun i x e=> .inl (h _ _ _ e)⟩
theorem JC{n i k:Nat}(h:RT (List.replicate n (-1)) i k):False:=by
 unfold RT at h
 rw[List.getElem?_replicate]at h
 split at h
 ·simp only[wi]at h;omega
 ·cases h
def QJ(o p:List Nat)(n:Nat):List Int:=(List.range n).map fun i=>if i∈o then((p[o.idxOf i]?).getD 0:Nat)else(-1:Int)
theorem zhm{a b:Gr}(ha:kL a)(hb:kL b){o p:List Nat}(h1:Order a o)(h2:Order b p){To At:List Int}{bad:Bool}(h:kK a b (List.replicate a.nodes.length (-1)) (List.replicate b.nodes.length (-1)) a.roots b.roots To At bad):
  (bad=false↔fz a o=fz b p)∧(bad=false→o.length=p.length∧To=QJ o p a.nodes.length):=by
 have oh:bad=false→xF a b (RT To):=fun e=>by
  obtain⟨h3,h4⟩:=h.ok e
  refine⟨h3,fun i k r=>h4 i k r JC,fun i k i' k' r r'=>⟨fun q=>?_,fun q=>?_⟩⟩
  ·subst q
   unfold RT at r r'
   rw[r]at r'
   simp only[wi]at r'
   omega
  ·subst q
   have e1:=(h.inv.both i k).1 r
   have e2:=(h.inv.both i' k).1 r'
   rw[e1]at e2
   simp only[wi]at e2
   omega
 have hc:bad=false↔fz a o=fz b p:=by
  constructor
  ·intro e;exact zhk (oh e) h1 h2
  ·intro e
   have hi:=QG ha hb h1 h2 e
   exact(h.sub _ hi (fun _ _ r=>(JC r).elim) hi.roots).1
 refine⟨hc,fun e=>?_⟩
 have hr:=QD (oh e) h1 h2
 have hi:=QG ha hb h1 h2 (hc.1 e)
 have lx:=(h.sub _ hi (fun _ _ r=>(JC r).elim) hi.roots).2
 have k1:=Ce ha h1
 refine⟨hr.1,waR fun i=>?_⟩
 unfold QJ
 by_cases hlt:i<a.nodes.length
 ·rw[war,wbC hlt,waE]
  by_cases cf:i∈o
  ·rw[wF cf]
   have e1:=Jw cf
   have jd:o.idxOf i<p.length:=by rw[←hr.1];exact wb6 cf
   have e2:=wj jd
   rw[e2]
   exact hr.2 _ _ _ e1 e2
  ·rw[wI cf]
   have hl:i<To.length:=by rw[h.inv.tl];exact hlt
   rcases h.inv.to i _ (wj hl)with q|⟨k,q⟩
   ·rw[wj hl,q]
   ·have:RT To i k:=by unfold RT;rw[wj hl,q]
    obtain⟨t,e1,_⟩:=lx _ _ this
    exact absurd (wag e1) cf
 ·rw[wak (by rw[h.inv.tl];omega),wak (by rw[wO,wb9];omega)]
end Go.AM
