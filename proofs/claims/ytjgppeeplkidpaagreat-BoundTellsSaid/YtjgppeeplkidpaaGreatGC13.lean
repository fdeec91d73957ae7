/-
  Walks over letters of the functions that the law reaches; written small by a program of mine.
-/
import Derived.Test.YtjgppeeplkidpaaGreatGC8
set_option linter.unusedVariables false
set_option linter.unusedSectionVars false
namespace Go.AM
attribute [local instance] fnMaps
open Go Go.Proofs
set_option maxRecDepth 100000
set_option maxHeartbeats 1000000
set_option linter.unusedSimpArgs false
def fz(ks:List Int)(w:Nat):Bool:=match dS w with
 |none=>false
 |some v=>if v.kind=2 then decide (v.x∈ks)else true
theorem ON(H:Heap)(aj:H.lo≤H.next){lp mp:Nat}{ks:List Int}{cells:List Value}(aG:H.objs.get lp=some (.row cells none true))(hc:cells[12]? =some (.map (some mp)))(hm:H.objs.get mp=some (.map (fY ks)))(l1:lp<H.next)(l2:mp<H.next)(w:Nat)(hw:w<2^64):af E (aC 244) [ptr lp 0,.int .u64 w] H fun r H'=>r= .bool (fz ks w)∧aq H H':=by
 refine aQ Tryz.f244 ?_
 simp only[Tryz.f244]
 cases hd:dS w with
 |none=>
  have e:fz ks w=false:=by unfold fz;rw[hd]
  repeat'(first|refine az 2 [Fx,Fx,Fx,Fx,Fx,Fx,Fx,Fx,Fx,Fx,Fx,Fx,Fx,Fx,Fx,Fx,Fx] ?_|((with_reducible show af _ _ _ _ _);refine ak H (yx _ ah w hw) ?_;intro H2 k2 l2 n2 g2 q2;try simp(disch:=omega)only[sm,sl]at l2 n2 g2 q2)|simp(disch:=omega)only[↓aa,ab,simprocAttr,sa,cX,Option.getD_none,Option.isSome_none, *])
  all_goals first
   |exact xW
   |contradiction
 |some v=>
  by_cases hk:v.kind=2
  ·have e:fz ks w=decide (v.x∈ks):=by unfold fz;rw[hd];exact wF hk
   repeat'(first|refine az 2 [Fx,Fx,Fx,Fx,Fx,Fx,Fx,Fx,Fx,Fx,Fx,Fx,Fx,Fx,Fx,Fx,Fx] ?_|((with_reducible show af _ _ _ _ _);refine ak H (yx _ ah w hw) ?_;intro H2 k2 l2 n2 g2 q2;try simp(disch:=omega)only[sm,sl]at l2 n2 g2 q2)|simp(disch:=omega)only[↓aa,ab,simprocAttr,sa,cX,wbr,wb1,zar,zas, *])
   all_goals first
    |exact xW
    |contradiction
  ·have e:fz ks w=true:=by unfold fz;rw[hd];exact wI hk
   repeat'(first|refine az 2 [Fx,Fx,Fx,Fx,Fx,Fx,Fx,Fx,Fx,Fx,Fx,Fx,Fx,Fx,Fx,Fx,Fx] ?_|((with_reducible show af _ _ _ _ _);refine ak H (yx _ ah w hw) ?_;intro H2 k2 l2 n2 g2 q2;try simp(disch:=omega)only[sm,sl]at l2 n2 g2 q2)|simp(disch:=omega)only[↓aa,ab,simprocAttr,sa,cX,wbr,wb1, *])
   all_goals first
    |exact xW
    |contradiction
def eG(s:Slot):Bool:=(dS s.word).isSome&&(oQ s.gen||(!s.used&&decide (s.gen=1099511627776)))&&(s.used||decide ((s.word:Int)=0))
def ni(l:List Slot)(n:Int):Bool:=l.all eG&&decide ((l.length:Int)=n∧1≤n∧n≤1024)
theorem zax(H:Heap)(aj:H.lo≤H.next)(v:Value)(l:List Slot)(hv:SL ux 3 H v l)(hu:∀ s∈l,s.word<2^64)(n:Int):af E (aC 242) [v,.int .i64 n] H fun r H'=>r= .bool (ni l n)∧aq H H':=by
 obtain⟨a,ca,rfl,⟨_,jP⟩,bJ⟩:=hv
 refine aQ Tryz.f242 ?_
 simp only[Tryz.f242]
 simp(disch:=omega)only[↓aa,ab,simprocAttr,sa, *]
 refine bC H [0,1,10,11,12] (fun T1 H1 u1 k1 n1 l1 g1=>?_) aw
 try simp(disch:=omega)only[sm,sl]at n1 l1 g1
 simp only[sq,simprocAttr]at u1
 refine bt kq (fun nn T X=>∃ i:Nat,nn=l.length-i∧(T.get 12=some (.int .i64 i))∧(T.get 0=T1.get 0∧T.get 1=T1.get 1∧T.get 10=T1.get 10∧T.get 11=T1.get 11)∧Ko H1 X∧X.lo=H1.lo∧(i≤l.length∧l.all eG=(l.drop i).all eG)) ?_ ?_
 ·refine⟨_,0,rfl,?_,?_,Ko.refl _,rfl,⟨wJ _,rfl⟩⟩<;>exact ay
 rintro nn fk X1 ⟨i,rfl,m1,w1,bu,iz,⟨hi,hE⟩⟩ Qs hQ aD ai
 have cw:=k1.trans bu;have fp:=bu.ag;have fX:=bu.objs
 by_cases hlt:i<l.length
 ·obtain⟨r,o,cells,gg,tt,part,rfl,hr,aG,a8,rfl⟩:=bJ i l[i] (by simp)
  have a1:=bI hlt
  have e1:=cw.objs r hr
  have hw:=hu l[i] (by simp)
  rw[wX hlt,wbu]at hE
  unfold uw at a8
  have pH:eG l[i]=true→l.all eG=(l.drop (i+1)).all eG:=fun h=>by rw[hE,h,wa9]
  have jf:eG l[i]=false→ni l n=false:=fun h=>by unfold ni;rw[hE,h];rfl
  cases hd:(dS l[i].word).isSome with
  |false=>
   have hb:=jf (by unfold eG;rw[hd];rfl)
   repeat'(first|(apply ao<;>intro)|apply bQ|refine kV (fun _=>?_) (fun _=>?_)|((with_reducible show af _ _ _ _ _);refine ak H1 (yx _ ah l[i].word hw) ?_;intro H2 k2 l2 n2 g2 q2;try simp(disch:=omega)only[sm,sl]at l2 n2 g2 q2)|((with_reducible show Qs _ _ _ _ _);first|refine ai _ _ _ _ ?_|refine aD _ _ _ ?_)|simp(disch:=omega)only[↓aa,ab,simprocAttr,sa,cX, *])
   all_goals try omega
   all_goals first
    |exact⟨rfl,aF⟩
    |exact aF
  |true=>
   cases hg:oQ l[i].gen<;>cases nj:l[i].used<;>cases zay:decide (l[i].gen=1099511627776)<;>cases jR:decide ((l[i].word:Int)=0)
   all_goals
    have hs:eG l[i]=_:=(by unfold eG;rw[hd,hg,nj,zay,jR])
    repeat'(first|(apply ao<;>intro)|((with_reducible show af _ _ _ _ _);(first|refine ak H1 (yx _ ah l[i].word hw) ?_|refine ak H1 (zaw _ ah _ _ _) ?_);intro H2 k2 l2 n2 g2 q2;try simp(disch:=omega)only[sm,sl]at l2 n2 g2 q2)|((with_reducible show Qs _ _ _ _ _);first|refine ai _ _ _ _ ?_|refine aD _ _ _ ?_)|simp(disch:=omega)only[↓aa,ab,simprocAttr,sa,cX, *])
    all_goals try omega
   all_goals first
    |(have hb:=jf hs;rw[hb];exact⟨rfl,aF⟩)
    |(refine hQ _ _ _ ?_ ⟨i+1,rfl,?_,?_,?_,?_,⟨by omega,pH hs⟩⟩<;>exact ay)
 ·have cP:l.all eG=true:=by rw[hE,waO (by omega)];rfl
  have hR:ni l n=decide ((l.length:Int)=n∧1≤n∧n≤1024):=by unfold ni;rw[cP];rfl
  repeat'(first|(apply ao<;>intro)|((with_reducible show Qs _ _ _ _ _);refine ai _ _ _ _ ?_)|simp(disch:=omega)only[↓aa,ab,simprocAttr,sa, *])
  all_goals try omega
  all_goals first
   |exact aF
   |exact⟨by simp,aF⟩
structure St where
 cfg:cm
 second:Bool
 words:List Nat
 top:Int
 table:List Span
 free:List Span
 bj:List Slot
def gB(s:St)(w t f zl ap sm mp:Value):List Value:=[.int .i64 s.cfg.mh,.int .i64 s.cfg.mj,.int .i64 s.cfg.bj,.int .i64 s.cfg.fL,.bool s.second,w,.int .i64 s.top,t,f,zl,ap,sm,mp]
structure iQ(H:Heap)(s:St)(w t f zl:Value):Prop where
 w:aZ RW 1 H w s.words
 t:aZ bD 2 H t s.table
 f:aZ bD 2 H f s.free
 sl:aZ ux 3 H zl s.bj
theorem zaz(H:Heap)(aj:H.lo≤H.next){lp:Nat}{s:St}{w t f zl ap sm mp:Value}(aG:H.objs.get lp=some (.row (gB s w t f zl ap sm mp) none true))(hl:lp<H.next):af E (aC 193) [ptr lp 0] H fun r H'=>r= .bool (decide s.cfg.Ok)∧aq H H':=by
 unfold gB at aG
 refine aQ Tryz.f193 ?_
 simp only[Tryz.f193]
 repeat'(first|((with_reducible show af _ _ _ _ _);refine ak H (DP _ ah s.cfg) ?_;intro H2 k2 l2 n2 g2 q2;try simp(disch:=omega)only[sm,sl]at l2 n2 g2 q2)|simp(disch:=omega)only[↓aa,ab,simprocAttr,sa, *])
 exact aF
theorem zaA(H:Heap)(aj:H.lo≤H.next){lp:Nat}{s:St}{w t f zl ap sm mp:Value}(aG:H.objs.get lp=some (.row (gB s w t f zl ap sm mp) none true))(hl:lp<H.next)(hS:iQ H s w t f zl):af E (aC 194) [ptr lp 0] H fun r H'=>r= .bool (decide ((s.words.length:Int)=s.cfg.words))∧aq H H':=by
 unfold gB at aG
 obtain⟨⟨a,c,rfl,_⟩,_⟩:=hS.w
 refine aQ Tryz.f194 ?_
 simp only[Tryz.f194]
 repeat'(first|refine az 1 [Fx,Fx,Fx,Fx,Fx,Fx,Fx,Fx,Fx,Fx,Fx,Tx,Fx,Fx] ?_|((with_reducible show af _ _ _ _ _);refine ak H (ZY _ ah s.cfg) ?_;intro H2 k2 l2 n2 g2 q2;try simp(disch:=omega)only[sm,sl]at l2 n2 g2 q2)|simp(disch:=omega)only[↓aa,ab,simprocAttr,sa, *])
 exact aF
def oi(s:St):Prop:=(s.cfg.dI s.second).ae≤s.top∧s.top≤(s.cfg.dI s.second).ae+(s.cfg.dI s.second).size
instance(s:St):Decidable (oi s):=by unfold oi;infer_instance
theorem HH(c:cm)(b:Bool):0≤(c.dI b).ae∧(c.dI b).ae≤32768∧0≤(c.dI b).size∧(c.dI b).size≤32768:=by
 unfold cm.dI
 split
 ·rename_i h
  unfold cm.Ok at h
  cases b<;>simp<;>omega
 ·simp
theorem zaB(H:Heap)(aj:H.lo≤H.next){lp:Nat}{s:St}{w t f zl ap sm mp:Value}(aG:H.objs.get lp=some (.row (gB s w t f zl ap sm mp) none true))(hl:lp<H.next):af E (aC 195) [ptr lp 0] H fun r H'=>r= .bool (decide (oi s))∧aq H H':=by
 unfold gB at aG
 have hf:=HH s.cfg s.second
 refine aQ Tryz.f195 ?_
 simp only[Tryz.f195]
 by_cases h1:(s.cfg.dI s.second).ae≤s.top
 ·repeat'(first|refine az 1 [Fx,Fx,Fx,Fx,Fx,Fx,Fx,Fx,Fx,Fx,Fx,Fx,Fx] ?_|refine az 2 [Fx,Fx,Fx,Fx,Fx,Fx,Fx,Fx,Fx,Fx,Fx,Fx,Fx,Fx,Fx,Fx,Fx,Fx,Fx,Fx,Fx,Fx] ?_|((with_reducible show af _ _ _ _ _);refine ak H (Ho _ ah s.cfg s.second) ?_;intro H2 k2 l2 n2 g2 q2;try simp(disch:=omega)only[sm,sl]at l2 n2 g2 q2)|simp(disch:=omega)only[↓aa,ab,simprocAttr,sa,bn, *])
  all_goals((with_reducible show _∧_);exact⟨fe (by simp only[wT,wG,wbh,wa5,oi];first|omega|(simp[*]<;>omega)),aF⟩)
 ·repeat'(first|refine az 1 [Fx,Fx,Fx,Fx,Fx,Fx,Fx,Fx,Fx,Fx,Fx,Fx,Fx] ?_|refine az 2 [Fx,Fx,Fx,Fx,Fx,Fx,Fx,Fx,Fx,Fx,Fx,Fx,Fx,Fx,Fx,Fx,Fx,Fx,Fx,Fx,Fx,Fx] ?_|((with_reducible show af _ _ _ _ _);refine ak H (Ho _ ah s.cfg s.second) ?_;intro H2 k2 l2 n2 g2 q2;try simp(disch:=omega)only[sm,sl]at l2 n2 g2 q2)|simp(disch:=omega)only[↓aa,ab,simprocAttr,sa,bn, *])
  all_goals((with_reducible show _∧_);exact⟨fe (by simp only[wT,wG,wbh,wa5,oi];first|omega|(simp[*]<;>omega)),aF⟩)
theorem zaC(H:Heap)(aj:H.lo≤H.next){lp:Nat}{s:St}{w t f zl ap sm mp:Value}(aG:H.objs.get lp=some (.row (gB s w t f zl ap sm mp) none true))(hl:lp<H.next)(hS:iQ H s w t f zl)(hu:∀ x∈s.bj,x.word<2^64):af E (aC 199) [ptr lp 0] H fun r H'=>r= .bool (ni s.bj s.cfg.bj)∧aq H H':=by
 unfold gB at aG
 have hs:=hS.sl
 refine aQ Tryz.f199 ?_
 simp only[Tryz.f199]
 repeat'(first|refine az 1 [Fx,Fx,Fx,Fx,Fx,Fx,Fx,Fx,Fx,Fx,Fx,Fx,Fx] ?_|((with_reducible show af _ _ _ _ _);refine ak H (zax _ ah zl s.bj (hs.1.ext ux.mono (Ko.ext aw)) hu s.cfg.bj) ?_;intro H2 k2 l2 n2 g2 q2;try simp(disch:=omega)only[sm,sl]at l2 n2 g2 q2)|simp(disch:=omega)only[↓aa,ab,simprocAttr,sa, *])
 exact aF
theorem OO(r o:Nat):cj (ptr r o)=[ptr r o]:=wE rfl rfl
theorem zaD(o:Option Nat):cj (.map o)=[.map o]:=wE rfl rfl
theorem zaE(o:Option Nat):isCell (.map o)=true:=wE rfl rfl
theorem DZ{cells:List Value}{k:Nat}{a:Value}(h:cut cells k 1=some [a]):cells[k]? =some a:=by
 rw[dB]at h
 split at h
 ·simp only[wi]at h
  have h0:=congrArg (fun l:List Value=>l[0]?) h
  simp only[wab,wae]at h0
  simpa using h0
 ·cases h
structure eK(k:Nat)(H H':Heap):Prop where
 ag:H.next≤H'.next
 objs:∀ x,x<H.next→x≠k→H'.objs.get x=H.objs.get x
 grps:∀ x,x<H.next→H'.grps.get x=H.grps.get x
theorem Ko.ju{H H':Heap}(h:Ko H H')(k:Nat):eK k H H':=⟨h.ag,fun x hx _=>h.objs x hx,h.grps⟩
theorem eK.ko{k:Nat}{H X Y:Heap}(h:eK k H X)(h':Ko X Y):eK k H Y:=⟨wK h.ag h'.ag,fun x hx hk=>(h'.objs x (wq hx h.ag)).trans (h.objs x hx hk),fun x hx=>(h'.grps x (wq hx h.ag)).trans (h.grps x hx)⟩
theorem eK.setRow{k:Nat}{H X:Heap}(h:eK k H X)(c:List Value):eK k H (X.setRow k c):=⟨h.ag,fun x hx hk=>by rw[aA,au hk];exact h.objs x hx hk,h.grps⟩
theorem eK.Hl{k:Nat}{H X:Heap}(h:eK k H X)(hl:X.lo=H.lo):m0 k H X:=⟨hl,h.ag,h.objs,h.grps⟩
theorem eK.trans{k:Nat}{H X Y:Heap}(h:eK k H X)(h':eK k X Y):eK k H Y:=⟨wK h.ag h'.ag,fun x hx hk=>(h'.objs x (wq hx h.ag) hk).trans (h.objs x hx hk),fun x hx=>(h'.grps x (wq hx h.ag)).trans (h.grps x hx)⟩
theorem eK.new{k m:Nat}{H X Y:Heap}(h:eK k H X)(h':eK m X Y)(hm:H.next≤m):eK k H Y:=⟨wK h.ag h'.ag,fun x hx hk=>(h'.objs x (wq hx h.ag) (by omega)).trans (h.objs x hx hk),fun x hx=>(h'.grps x (wq hx h.ag)).trans (h.grps x hx)⟩
theorem eK.setAt{k:Nat}{H X:Heap}(h:eK k H X)(o:AObj):eK k H (X.setObj k o):=⟨by rw[oJ];exact h.ag,fun x hx hk=>by rw[iw,au hk];exact h.objs x hx hk,fun x hx=>by rw[vx];exact h.grps x hx⟩
theorem Ar.ju{H X:Heap}{k a rw g:Nat}{ws:List Nat}(h:Ar H a rw g ws)(s:eK k H X)(h1:a≠k)(h2:rw≠k):Ar X a rw g ws:=
 ⟨(s.objs a h.la h1).trans h.box,(s.objs rw h.lw h2).trans h.row,(s.grps g h.lg).trans h.bH,wq h.la s.ag,wq h.lw s.ag,wq h.lg s.ag,h.ne,h.u64,h.len⟩
theorem aZ.fresh{α:Type}{R:Heap→List Value→α→Prop}(hR:∀ X X' part x,R X part x→R X' part x){z b:Nat}{H Y:Heap}{v:Value}{l:List α}(h:aZ R z H v l)(hf:jl b v)(ho:∀ r,b≤r→r<H.next→Y.objs.get r=H.objs.get r)(hn:H.next≤Y.next):aZ R z Y v l:=by
 obtain⟨⟨a,c,rfl,hc,hl⟩,hr⟩:=h
 refine⟨⟨a,c,rfl,hc,fun i x hx=>?_⟩,fun a' n c' e=>?_⟩
 ·obtain⟨r,o,cells,g,t,part,rfl,h1,h2,h3,h4⟩:=hl i x hx
  rcases hf _ _ _ rfl with h5|⟨r',h5,h6⟩
  ·cases h5
  ·cases h5
   exact⟨r,0,cells,g,t,part,rfl,by omega,(ho r h6 h1).trans h2,h3,hR _ _ _ _ h4⟩
 ·rcases hr a' n c' e with h5|⟨r,cells,g,t,h5,h6,h7⟩
  ·exact .inl h5
  ·rcases hf _ _ _ e with h8|⟨r',h8,h9⟩
   ·exact .inl h8
   ·rw[h5]at h8
    cases h8
    exact .inr ⟨r,cells,g,t,h5,by omega,(ho r h9 h6).trans h7⟩
def da(s:St):List Int×Int:=iR s.words (s.cfg.dI s.second) s.top
def sw(s:St):List Int:=(da s).1.foldl oP []
structure Lk(H:Heap)(lp:Nat)(s:St)(w t f zl:Value)(a rw m:Nat)(dT:Value)(dM ks:List Int):Prop where
 row:H.objs.get lp=some (.row (gB s w t f zl (ptr a 0) dT (.map (some m))) none true)
 ar:Ar H a rw rw s.words
 small:aZ (dd .i64) 1 H dT dM
 map:H.objs.get m=some (.map (fY ks))
 lm:m<H.next
theorem zaF(H:Heap)(aj:H.lo≤H.next){lp:Nat}{s:St}{w t f zl sm mp:Value}(aG:H.objs.get lp=some (.row (gB s w t f zl (.pointer none) sm mp) none true))(hl:lp<H.next)(lu:H.lo≤lp)(csm:isCell sm=true)(cmp:isCell mp=true)(hS:iQ H s w t f zl)(hc:s.cfg.Ok)(hw:(s.words.length:Int)=s.cfg.words)(hu:∀ x∈s.words,x<2^64)(ht:oi s):
  af E (aC 196) [ptr lp 0] H fun r H'=>r= .bool (decide ((da s).2=0))∧m0 lp H H'∧∃ a rw m dT,Lk H' lp s w t f zl a rw m dT (da s).1 (sw s)∧H.next≤a∧H.next≤rw∧H.next≤m:=by
 unfold gB at aG
 have jR:s.words≠[]∧s.words.length≤98304:=by
  unfold cm.words at hw
  rw[wF hc]at hw
  unfold cm.Ok at hc
  refine⟨fun e=>?_,by omega⟩
  rw[e]at hw
  simp at hw
  omega
 refine aQ Tryz.f196 ?_
 simp only[Tryz.f196]
 simp(disch:=omega)only[↓aa,ab,simprocAttr,sa, *]
 refine(zae H aj w s.words hS.w jR.1 jR.2 hu).mono ?_
 rintro r H2 ⟨a,rw,rfl,hA,la,lrw,s2⟩
 have e2:=s2.objs lp hl;have l2:=s2.lo;have n2:=s2.ag
 have lA:=hA.la;have lW:=hA.lw
 repeat'(first|refine az 2 [Fx,Fx,Fx,Fx,Fx,Fx,Fx,Fx,Fx,Fx,Fx,Fx,Fx,Fx,Tx,Fx,Fx,Fx,Fx,Fx,Fx,Fx,Fx,Fx,Fx,Fx] ?_|simp(disch:=omega)only[↓aa,ab,simprocAttr,sa,OO, *])
 refine ym (fun X eX=>?_)
 have bX:eK lp H X:=by rw[eX];exact eK.setRow ((s2.ko.cd _).ju lp) _
 have rX:X.objs.get lp=some (.row (gB s w t f zl (ptr a 0) sm mp) none true):=by rw[eX];simp(disch:=omega)only[aA,aM,aB,aJ,aH,aI,aN,aO,aR,aP,aL,aE,aK,au,sl,gB]
 have AX:Ar X a rw rw s.words:=by
  rw[eX]
  exact⟨by simp(disch:=omega)only[aA,aM,aB,aJ,aH,aI,aN,aO,aR,aP,aL,aE,aK,au,sl];exact hA.box,by simp(disch:=omega)only[aA,aM,aB,aJ,aH,aI,aN,aO,aR,aP,aL,aE,aK,au,sl];exact hA.row,by simp(disch:=omega)only[aA,aM,aB,aJ,aH,aI,aN,aO,aR,aP,aL,aE,aK,au,sl];exact hA.bH,hA.la,hA.lw,hA.lg,hA.ne,hA.u64,hA.len⟩
 have nX:X.next=H2.next:=by rw[eX];simp(disch:=omega)only[aA,aM,aB,aJ,aH,aI,aN,aO,aR,aP,aL,aE,aK,au,sl]
 have lX:X.lo=H2.next:=by rw[eX];simp(disch:=omega)only[aA,aM,aB,aJ,aH,aI,aN,aO,aR,aP,aL,aE,aK,au,sl]
 clear eX e2
 unfold gB at rX
 have tX:lp<X.next:=by omega
 repeat'(first|((with_reducible show af _ _ _ _ _);refine ak X (Ho _ ah s.cfg s.second) ?_;intro H2 k2 l2 n2 g2 q2;try simp(disch:=omega)only[sm,sl]at l2 n2 g2 q2)|simp(disch:=omega)only[↓aa,ab,simprocAttr,sa, *])
 refine(zaG (H2.cd H.lo) (by simp(disch:=omega)only[aA,aM,aB,aJ,aH,aI,aN,aO,aR,aP,aL,aE,aK,au,sl];omega) (AX.same (k2.cd _)) (s.cfg.dI s.second) s.top).mono ?_
 rintro r H3 ⟨sv,rfl,⟨hsv,cQ⟩,s3⟩
 have k3:Ko X H3:=(k2.cd H.lo).call s3
 have l3:=s3.lo;have n3:=k3.ag
 have e3:=k3.objs lp tX
 have A3:=AX.same k3
 have la3:=A3.la;have lw3:=A3.lw;have lg3:=A3.lg
 simp only[aK]at l3
 clear s3
 obtain⟨⟨jS,sc,rfl,⟨_,gx⟩,ft⟩,hsr⟩:=hsv
 simp(disch:=omega)only[↓aa,ab,simprocAttr,sa,OO,zaD,zaE,wbu,List.all_nil,wb8,wY,waA,px,ja,vw,zM, *]
 refine zA (fun T1 H1 eT eH=>?_)
 generalize AR:(iR s.words (s.cfg.dI s.second) s.top).1=small at*
 have r1:H1.objs.get lp=some (.row (gB s w t f zl (ptr a 0) (.slice jS small.length sc) (.map (some H3.next))) none true):=by rw[eH];simp(disch:=omega)only[aA,aM,aB,aJ,aH,aI,aN,aO,aR,aP,aL,aE,aK,au,sl,gB,px,ja]
 have m1:H1.objs.get H3.next=some (.map (fY [])):=by rw[eH];simp(disch:=omega)only[aA,aM,aB,aJ,aH,aI,aN,aO,aR,aP,aL,aE,aK,au,sl,px,ja];rfl
 have b1:eK lp H3 H1:=by rw[eH];exact eK.setRow (eK.setRow ((Aa H3 _).ko.ju lp) _) _
 have n1:H1.next=H3.next+1:=by rw[eH];simp(disch:=omega)only[aA,aM,aB,aJ,aH,aI,aN,aO,aR,aP,aL,aE,aK,au,sl,px,ja]
 have l1:H1.lo=H.lo:=by rw[eH];simp(disch:=omega)only[aA,aM,aB,aJ,aH,aI,aN,aO,aR,aP,aL,aE,aK,au,sl,px,vw,l3]
 have t51:T1.get 51=some (.slice jS small.length sc):=by rw[eT];simp(disch:=omega)only[↓aa,ab,simprocAttr]
 have t52:T1.get 52=some (.int .i64 small.length):=by rw[eT];simp(disch:=omega)only[↓aa,ab,simprocAttr]
 have t53:T1.get 53=some (.int .i64 0):=by rw[eT];simp(disch:=omega)only[↓aa,ab,simprocAttr]
 have t0:T1.get 0=some (ptr lp 0):=by rw[eT];simp(disch:=omega)only[↓aa,ab,simprocAttr]
 have t4:T1.get 4=some (.int .i64 (iR s.words (s.cfg.dI s.second) s.top).2):=by rw[eT];simp(disch:=omega)only[↓aa,ab,simprocAttr]
 clear eT eH
 simp only[aE]at cQ
 have uT:∀ i (hi:i<small.length),∃r o cells g t,jS=some ⟨r,o,none⟩∧r<H3.next∧X.next≤r∧H3.objs.get r=some (.row cells g t)∧cells[o+i]? =some (.int .i64 small[i]):=fun i hi=>by
  obtain⟨r,o,cells,g,t,part,e,h1,h2,h3,h4⟩:=ft i small[i] (by simp)
  subst e
  rcases cQ _ _ _ rfl with hn|⟨r',hr,hb⟩
  ·cases hn
  ·cases hr
   refine⟨r,0,cells,g,t,rfl,h1,by omega,h2,?_⟩
   rw[h4,waY]at h3
   exact DZ h3
 refine bt kq (fun nn T Y=>∃ i:Nat,nn=small.length-i∧i≤small.length∧T.get 53=some (.int .i64 i)∧T.get 51=some (.slice jS small.length sc)∧T.get 52=some (.int .i64 small.length)∧T.get 0=some (ptr lp 0)∧T.get 4=some (.int .i64 (iR s.words (s.cfg.dI s.second) s.top).2)∧
  Y.objs.get H3.next=some (.map (fY ((small.take i).foldl oP [])))∧eK H3.next H1 Y∧Y.lo=H.lo) ⟨_,0,rfl,wJ _,t53,t51,t52,t0,t4,m1,(Ko.refl _).ju _,l1⟩ ?_
 rintro nn T Y ⟨i,rfl,hi,u53,u51,u52,u0,u4,mY,bY,lY⟩ Qs hQ aD ai
 have nY:=bY.ag
 have rY:=(bY.objs lp (by omega) (by omega)).trans r1
 unfold gB at rY
 by_cases hlt:i<small.length
 ·obtain⟨r,o,cells,g,t',rfl,h1,h2,h3,h4⟩:=uT i hlt
  have a1:=bI hlt
  have hrY:Y.objs.get r=some (.row cells g t'):=(bY.objs r (by omega) (by omega)).trans ((b1.objs r (by omega) (by omega)).trans h3)
  repeat'(first|(apply ao<;>intro)|((with_reducible show Qs _ _ _ _ _);refine ai _ _ _ _ ?_)|simp(disch:=omega)only[↓aa,ab,simprocAttr,sa,OL,OM, *])
  all_goals try omega
  refine hQ _ _ _ ?_ ⟨i+1,rfl,by omega,?_,?_,?_,?_,?_,?_,bY.setAt _,?_⟩
  ·omega
  iterate 5 exact ay
  ·rw[iw,cB rfl,wR,wj hlt,List.foldl_append];rfl
  ·rw[x4];exact lY
 ·repeat'(first|(apply ao<;>intro)|((with_reducible show Qs _ _ _ _ _);refine ai _ _ _ _ ?_)|simp(disch:=omega)only[↓aa,ab,simprocAttr,sa, *])
  all_goals try omega
  have e0:i=small.length:=by omega
  rw[e0,waj]at mY
  have zaH:aZ (dd .i64) 1 H3 (.slice jS small.length sc) small:=⟨⟨jS,sc,rfl,⟨by assumption,gx⟩,ft⟩,hsr⟩
  refine⟨rfl,eK.Hl (((bX.ko k3).trans b1).new bY (by omega)) lY,a,rw,H3.next,_,⟨rY,(A3.ju b1 (by omega) (by omega)).ju bY (by omega) (by omega),?_,?_,by omega⟩,by omega,by omega,by omega⟩
  ·show aZ (dd .i64) 1 Y _ (iR s.words (s.cfg.dI s.second) s.top).1
   rw[AR]
   exact zaH.fresh (fun _ _ _ _ h=>h) cQ (fun r h1 h2=>(bY.objs r (by omega) (by omega)).trans (b1.objs r (by omega) (by omega))) (by omega)
  ·show Y.objs.get H3.next=some (.map (fY ((iR s.words (s.cfg.dI s.second) s.top).1.foldl oP [])))
   rw[AR]
   exact mY
theorem OQ{ws:List Nat}{top:Int}:∀ (n:Nat) (p:Int),0≤p→∀ x∈gC (dO ws top n p),cF ws x=0∧0≤x∧x<ws.length
 |0,p,_,x,h=>by cases h
 |n+1,p,hp,x,h=>by
  rw[dO]at h
  split at h
  ·split at h
   ·rename_i h2
    have h3:=qT h2
    have h4:=vZ h3.1
    simp only[gC,wce,wb0,wah,wbk,wad]at h
    rcases h with rfl|h
    ·exact⟨h3.1,hp,(kE h3.1).2.1⟩
    ·exact OQ n _ (by omega) x h
   ·cases h
  ·cases h
theorem AS(s:St):∀ x∈(da s).1,cF s.words x=0∧0≤x∧x<s.words.length:=by
 intro x hx
 unfold da iR at hx
 split at hx
 ·exact OQ _ _ (HH s.cfg s.second).1 x hx
 ·cases hx
def jT(s:St)(x:Int):Bool:=qS (aT s.words x)&&decide (s.cfg.Small (cu (aT s.words x)))
theorem zaI(H:Heap)(aj:H.lo≤H.next){lp a rw m:Nat}{s:St}{w t f zl dT:Value}{dM ks:List Int}(hk:Lk H lp s w t f zl a rw m dT dM ks)(hl:lp<H.next)(hb:∀ x∈dM, -9223372036854775808≤x∧x≤9223372036854775807):af E (aC 197) [ptr lp 0] H fun r H'=>r= .bool (dM.all (jT s))∧aq H H':=by
 have aG:=hk.row
 have hA:=hk.ar
 obtain⟨⟨jS,sc,rfl,⟨_,gx⟩,ft⟩, -⟩:=hk.small
 unfold gB at aG
 refine aQ Tryz.f197 ?_
 simp only[Tryz.f197]
 simp(disch:=omega)only[↓aa,ab,simprocAttr,sa, *]
 refine bC H [0,10,11,12] (fun T1 H1 u1 k1 n1 l1 g1=>?_) aw
 try simp(disch:=omega)only[sm,sl]at n1 l1 g1
 simp only[sq,simprocAttr]at u1
 refine bt kq (fun nn T X=>∃ i:Nat,nn=dM.length-i∧(T.get 12=some (.int .i64 i))∧(T.get 0=T1.get 0∧T.get 10=T1.get 10∧T.get 11=T1.get 11)∧Ko H1 X∧X.lo=H1.lo∧(i≤dM.length∧dM.all (jT s)=(dM.drop i).all (jT s))) ?_ ?_
 ·refine⟨_,0,rfl,?_,?_,Ko.refl _,rfl,⟨wJ _,rfl⟩⟩<;>exact ay
 rintro nn fk X1 ⟨i,rfl,m1,w1,bu,iz,⟨hi,hE⟩⟩ Qs hQ aD ai
 have cw:=k1.trans bu;have fp:=bu.ag;have fX:=bu.objs
 have e0:=cw.objs lp hl
 by_cases hlt:i<dM.length
 ·obtain⟨r,o,cells,gg,tt,part,rfl,hr,iL,a8,rfl⟩:=ft i dM[i] (by simp)
  rw[waY]at a8
  have a8:=DZ a8
  have a1:=bI hlt
  have e1:=cw.objs r hr
  have hx:=hb dM[i] (by simp)
  rw[wX hlt,wbu]at hE
  cases hq:qS (aT s.words dM[i])with
  |false=>
   have hn:dM.all (jT s)=false:=by rw[hE,jT,hq];rfl
   clear hE
   repeat'(first|(apply ao<;>intro)|refine az 5 [Fx,Fx,Fx,Fx,Fx,Fx,Fx,Fx,Fx,Fx,Tx,Fx,Fx,Fx] ?_|((with_reducible show af _ _ _ _ _);(first|refine ak H1 (oN _ ah (hA.same aw) dM[i] hx) ?_|refine ak H1 (yB _ ah (aT s.words dM[i])) ?_);intro H2 k2 l2 n2 g2 q2;try simp(disch:=omega)only[sm,sl]at l2 n2 g2 q2)|((with_reducible show Qs _ _ _ _ _);first|refine ai _ _ _ _ ?_|refine aD _ _ _ ?_)|simp(disch:=omega)only[↓aa,ab,simprocAttr,sa,bK, *])
   all_goals try omega
   all_goals first
    |exact aF
    |(exact⟨rfl,aF⟩)
  |true=>
   by_cases AR:s.cfg.Small (cu (aT s.words dM[i]))
   ·have hn:dM.all (jT s)=(dM.drop (i+1)).all (jT s):=by rw[hE,jT,hq,wz AR];rfl
    clear hE
    repeat'(first|(apply ao<;>intro)|refine az 5 [Fx,Fx,Fx,Fx,Fx,Fx,Fx,Fx,Fx,Fx,Tx,Fx,Fx,Fx] ?_|((with_reducible show af _ _ _ _ _);(first|refine ak H1 (oN _ ah (hA.same aw) dM[i] hx) ?_|refine ak H1 (yB _ ah (aT s.words dM[i])) ?_|refine ak H1 (qO _ ah (aT s.words dM[i])) ?_|refine ak H1 (DR _ ah s.cfg (cu (aT s.words dM[i]))) ?_);intro H2 k2 l2 n2 g2 q2;try simp(disch:=omega)only[sm,sl]at l2 n2 g2 q2)|((with_reducible show Qs _ _ _ _ _);refine ai _ _ _ _ ?_)|simp(disch:=omega)only[↓aa,ab,simprocAttr,sa,bK, *])
    all_goals try omega
    refine hQ _ _ _ ?_ ⟨i+1,rfl,?_,?_,?_,?_,⟨by omega,hn⟩⟩<;>exact ay
   ·have hn:dM.all (jT s)=false:=by rw[hE,jT,hq,wx AR];rfl
    clear hE
    repeat'(first|(apply ao<;>intro)|refine az 5 [Fx,Fx,Fx,Fx,Fx,Fx,Fx,Fx,Fx,Fx,Tx,Fx,Fx,Fx] ?_|((with_reducible show af _ _ _ _ _);(first|refine ak H1 (oN _ ah (hA.same aw) dM[i] hx) ?_|refine ak H1 (yB _ ah (aT s.words dM[i])) ?_|refine ak H1 (qO _ ah (aT s.words dM[i])) ?_|refine ak H1 (DR _ ah s.cfg (cu (aT s.words dM[i]))) ?_);intro H2 k2 l2 n2 g2 q2;try simp(disch:=omega)only[sm,sl]at l2 n2 g2 q2)|((with_reducible show Qs _ _ _ _ _);first|refine ai _ _ _ _ ?_|refine aD _ _ _ ?_)|simp(disch:=omega)only[↓aa,ab,simprocAttr,sa,bK, *])
    all_goals try omega
    all_goals first
     |exact aF
     |(exact⟨rfl,aF⟩)
 ·have hn:dM.all (jT s)=true:=by rw[hE,waO (by omega)];rfl
  clear hE
  repeat'(first|(apply ao<;>intro)|((with_reducible show Qs _ _ _ _ _);refine ai _ _ _ _ ?_)|simp(disch:=omega)only[↓aa,ab,simprocAttr,sa, *])
  all_goals try omega
  all_goals first
   |exact aF
   |(exact⟨rfl,aF⟩)
def iS(ks:List Int)(x:Slot):Bool:= !x.used||fz ks x.word
theorem zaJ(H:Heap)(aj:H.lo≤H.next){lp a rw m:Nat}{s:St}{w t f zl dT:Value}{dM ks:List Int}(hk:Lk H lp s w t f zl a rw m dT dM ks)(hl:lp<H.next)(hS:iQ H s w t f zl)(hu:∀ x∈s.bj,x.word<2^64):af E (aC 201) [ptr lp 0] H fun r H'=>r= .bool (s.bj.all (iS ks))∧aq H H':=by
 have aG:=hk.row
 have hm:=hk.map
 have sy:=hk.lm
 obtain⟨⟨jS,sc,rfl,⟨_,gx⟩,ft⟩, -⟩:=hS.sl
 unfold gB at aG
 refine aQ Tryz.f201 ?_
 simp only[Tryz.f201]
 simp(disch:=omega)only[↓aa,ab,simprocAttr,sa, *]
 refine bC H [0,9,10,11] (fun T1 H1 u1 k1 n1 l1 g1=>?_) aw
 try simp(disch:=omega)only[sm,sl]at n1 l1 g1
 simp only[sq,simprocAttr]at u1
 refine bt kq (fun nn T X=>∃ i:Nat,nn=s.bj.length-i∧(T.get 11=some (.int .i64 i))∧(T.get 0=T1.get 0∧T.get 9=T1.get 9∧T.get 10=T1.get 10)∧Ko H1 X∧X.lo=H1.lo∧(i≤s.bj.length∧s.bj.all (iS ks)=(s.bj.drop i).all (iS ks))) ?_ ?_
 ·refine⟨_,0,rfl,?_,?_,Ko.refl _,rfl,⟨wJ _,rfl⟩⟩<;>exact ay
 rintro nn fk X1 ⟨i,rfl,m1,w1,bu,iz,⟨hi,hE⟩⟩ Qs hQ aD ai
 have cw:=k1.trans bu;have fp:=bu.ag;have fX:=bu.objs
 have e0:=cw.objs lp hl
 have e2:=cw.objs m sy
 by_cases hlt:i<s.bj.length
 ·obtain⟨r,o,cells,gg,tt,part,rfl,hr,iL,a8,rfl⟩:=ft i s.bj[i] (by simp)
  unfold uw at a8
  have a1:=bI hlt
  have e1:=cw.objs r hr
  have hw:=hu s.bj[i] (by simp)
  rw[wX hlt,wbu]at hE
  cases nj:s.bj[i].used with
  |false=>
   have hn:s.bj.all (iS ks)=(s.bj.drop (i+1)).all (iS ks):=by rw[hE,iS,nj];rfl
   clear hE
   repeat'(first|(apply ao<;>intro)|((with_reducible show Qs _ _ _ _ _);refine ai _ _ _ _ ?_)|simp(disch:=omega)only[↓aa,ab,simprocAttr,sa, *])
   all_goals try omega
   refine hQ _ _ _ ?_ ⟨i+1,rfl,?_,?_,?_,?_,⟨by omega,hn⟩⟩<;>exact ay
  |true=>
   have nk:=fun(H0:Heap) (h0:H0.lo≤H0.next) (k:Ko H H0)=>ON H0 h0 ((k.objs lp hl).trans aG) rfl ((k.objs m sy).trans hm) (wq hl k.ag) (wq sy k.ag) s.bj[i].word hw
   cases kU:fz ks s.bj[i].word with
   |true=>
    have hn:s.bj.all (iS ks)=(s.bj.drop (i+1)).all (iS ks):=by rw[hE,iS,nj,kU];rfl
    clear hE
    repeat'(first|(apply ao<;>intro)|((with_reducible show af _ _ _ _ _);refine ak H1 (nk _ ah aw) ?_;intro H2 k2 l2 n2 g2 q2;try simp(disch:=omega)only[sm,sl]at l2 n2 g2 q2)|((with_reducible show Qs _ _ _ _ _);refine ai _ _ _ _ ?_)|simp(disch:=omega)only[↓aa,ab,simprocAttr,sa, *])
    all_goals try omega
    refine hQ _ _ _ ?_ ⟨i+1,rfl,?_,?_,?_,?_,⟨by omega,hn⟩⟩<;>exact ay
   |false=>
    have hn:s.bj.all (iS ks)=false:=by rw[hE,iS,nj,kU];rfl
    clear hE
    repeat'(first|(apply ao<;>intro)|((with_reducible show af _ _ _ _ _);refine ak H1 (nk _ ah aw) ?_;intro H2 k2 l2 n2 g2 q2;try simp(disch:=omega)only[sm,sl]at l2 n2 g2 q2)|((with_reducible show Qs _ _ _ _ _);first|refine ai _ _ _ _ ?_|refine aD _ _ _ ?_)|simp(disch:=omega)only[↓aa,ab,simprocAttr,sa, *])
    all_goals try omega
    all_goals first
     |exact aF
     |(exact⟨rfl,aF⟩)
 ·have hn:s.bj.all (iS ks)=true:=by rw[hE,waO (by omega)];rfl
  clear hE
  repeat'(first|(apply ao<;>intro)|((with_reducible show Qs _ _ _ _ _);refine ai _ _ _ _ ?_)|simp(disch:=omega)only[↓aa,ab,simprocAttr,sa, *])
  all_goals try omega
  all_goals first
   |exact aF
   |(exact⟨rfl,aF⟩)
end Go.AM
