/-
  Walks over letters of the functions that the law reaches; written small by a program of mine.
-/
import Derived.Test.YtjgppeeplkidpaaGreatAMc
import Derived.Test.YtjgppeeplkidpaaGreatTy
set_option linter.unusedVariables false
set_option linter.unusedSectionVars false
namespace Go.AM
attribute [local instance] fnMaps
open Go Go.Proofs
set_option linter.defProp false
def aa:=And.intro sh Sy
def ab:=And.intro (And.intro (And.intro sx sl) (And.intro sb st)) (And.intro (And.intro @au @Yo) (And.intro @Yk (And.intro @wrap_i64 wG)))
theorem aw{P:Prop}(h:P:=by with_reducible repeat' first|assumption|apply Ko.refl|apply Ko.newRow|apply Ko.cd|apply Ko.setRow|omega|(simp only[aB,aJ,aE];omega)|(refine Ko.trans ?_ (by assumption))):P:=h
theorem ah{P:Prop}(h:P:=by first|omega|(simp(disch:=omega)only[aB,aJ,aE,aH,aI,aK, *];first|done|omega)):P:=h
theorem ay{P:Prop}(h:P:=by first|trivial|omega|(simp(disch:=omega)only[↓aa,ab,simprocAttr,sa, *,Int.natCast_add,Int.natCast_one,wcg];done)|(simp(disch:=omega)only[↓aa,ab,simprocAttr,sa, *,wi,Value.int.injEq,wbT,wcl,Int.natCast_add,Int.natCast_one,wcg];omega)|exact aw):P:=h
theorem aF{H H':Heap}(k:Ko H H':=by exact aw)(l:H'.lo=H.lo:=by first|assumption|omega|simp(disch:=omega)only[↓aa,ab,simprocAttr,sa, *]):aq H H':=k.same l
theorem xW{P:Prop}(h:P:=by first|(with_reducible exact aF)|((with_reducible show _∧_);exact⟨by first|rfl|(simp[*]<;>omega),aF⟩)):P:=h
theorem cf{P:Prop}(h:P:=by first|exact aF|exact xW|omega):P:=h
theorem aQ{E:Env}{g:FuncId}(fn:Func){c:Code}{args:List Value}{H:Heap}{K:Value→Heap→Prop}
  (h:wp .go E fn.ntmps c pf (Tr.of args) [] none H fun t ex T' bs H'=>yn t ex (fun t=>bs=[]∧optP t (resultsV E H' T' fn.results.toList) fun _ vs=>K (jH vs) H')) (ho:E.orc (.func (.func g) #[] #[]) args H=none:=by kernel_rfl) (h1:E.fn.get g=some fn:=by kernel_rfl) (h2:fn.body=some c:=by exact rfl) (h3:Nat.ble args.length fn.ntmps=true:=by exact rfl):af E (.func (.func g) #[] #[]) args H K:=Wh ho h1 h2 h3 h
theorem az{E:Env}{sz:Nat}(id:Nat){T:Tr Value}{mk:List Nat}{ro:Option Nat}{H:Heap}{ops:Array Oper}{Q:Ex→Tr Value→List Nat→Heap→Prop}(ix:List Ix)(h:wpDraw .go E ops.toList pf sz ops.toList pf (ix.map (oh ops.toList)) T H fun _ T' H'=>Q .normal T' mk H')(hi:DN ops=some ix:=by kernel_rfl):gj E sz (.region id ops true) T mk ro H Q:=ic ix hi h
theorem ak{E:Env}{f:Value}{args:List Value}(H0:Heap){H1:Heap}{K:Value→Heap→Prop}{v:Value}(hc:af E f args H1 fun r H'=>r=v∧aq H1 H')
  (k:∀ H2,Ko H0 H2→H2.lo=H1.lo→H1.next≤H2.next→(∀x,x<H1.next→H2.objs.get x=H1.objs.get x)→(∀x,x<H1.next→H2.grps.get x=H1.grps.get x)→K v H2) (hk:Ko H0 H1:=by exact aw):af E f args H1 K:=KU hk hc k
def vU:List Nat→Tr Value→Tr Value→Prop
 |[],_,_=>True
 |k::l,T,T'=>T.get k=T'.get k∧vU l T T'
theorem ZV(T T':Tr Value):vU [] T T'=True:=wE rfl rfl
theorem ZW(k:Nat)(l:List Nat)(T T':Tr Value):vU (k::l) T T'=(T.get k=T'.get k∧vU l T T'):=wE rfl rfl
theorem Hn:∀ (l:List Nat) (T:Tr Value),vU l T T
 |[],_=>trivial
 |_::l,T=>⟨rfl,Hn l T⟩
section
variable{E:Env}{sz:Nat}{c:Code}{T:Tr Value}{mk:List Nat}{ro:Option Nat}{H:Heap}{Q:Ex→Tr Value→List Nat→Heap→Prop}
theorem bC(H0:Heap)(U:List Nat)(h:∀ T1 H1,vU U T1 T→Ko H0 H1→H1.next=H.next→H1.lo=H.lo→(∀r,H1.objs.get r=H.objs.get r)→gj E sz c T1 mk ro H1 Q)(k:Ko H0 H):gj E sz c T mk ro H Q:=h T H (Hn U T) k rfl rfl fun _=>rfl
theorem ZX(H0 On:Heap)(U:List Nat)(h:∀ T1 H1,vU U T1 T→Ko H0 H1→Ko On H1→H1.next=H.next→H1.lo=H.lo→(∀r,H1.objs.get r=H.objs.get r)→gj E sz c T1 mk ro H1 Q)(k:Ko H0 H)(k':Ko On H):gj E sz c T mk ro H Q:=h T H (Hn U T) k k' rfl rfl fun _=>rfl
end
def sq:=And.intro (And.intro (And.intro ZV ZW) (And.intro @wcl (And.intro @dq of_nil))) (And.intro (And.intro Oc Od) (And.intro Oe (And.intro Fb K0)))
abbrev Fx:Ix:=(false,[],[])
abbrev Tx:Ix:=(true,[],[])
set_option maxRecDepth 100000
set_option maxHeartbeats 1000000
set_option linter.unusedSimpArgs false
structure Span where
 ae:Int
 size:Int
 deriving DecidableEq
structure cm where
 mh:Int
 mj:Int
 bj:Int
 fL:Int
 deriving DecidableEq
def bn(x:Span):Value:= .agg #[.int .i64 x.ae,.int .i64 x.size]
def cD(c:cm):Value:= .agg #[.int .i64 c.mh,.int .i64 c.mj,.int .i64 c.bj,.int .i64 c.fL]
def bw(x:Span):Prop:=0≤x.ae∧x.ae≤1099511627776∧1≤x.size∧x.size≤1099511627776-x.ae
instance(x:Span):Decidable (bw x):=by unfold bw;infer_instance
def Span.stop(x:Span):Int:=x.ae+x.size
def lC(x y:Span):Prop:=bw x∧bw y∧y.ae≤x.ae∧x.stop≤y.stop
instance(x y:Span):Decidable (lC x y):=by unfold lC;infer_instance
def kC(x y:Span):Prop:=bw x∧bw y∧x.ae<y.stop∧y.ae<x.stop
instance(x y:Span):Decidable (kC x y):=by unfold kC;infer_instance
theorem qL(H:Heap)(aj:H.lo≤H.next)(x:Span):af E (aC 58) [bn x] H fun r H'=>r= .bool (decide (bw x))∧aq H H':=by
 refine aQ Tryz.f58 ?_
 simp only[Tryz.f58]
 simp only[bn]
 repeat'(first|(apply ao<;>intro)|simp(disch:=omega)only[↓aa,ab,simprocAttr,sa, *])
 all_goals((with_reducible show _∧_);exact⟨fe (by simp only[wT,wG,wbh,wa5,bw];first|omega|(simp[*]<;>omega)),aF⟩)
theorem qM(H:Heap)(aj:H.lo≤H.next)(x:Span)(hx:bw x):af E (aC 255) [bn x] H fun r H'=>r= .int .i64 x.stop∧aq H H':=by
 unfold bw at hx
 refine aQ Tryz.f255 ?_
 simp only[Tryz.f255]
 simp only[bn]
 simp(disch:=omega)only[↓aa,ab,simprocAttr,sa, *]
 exact⟨rfl,by exact aF⟩
theorem DO(H:Heap)(aj:H.lo≤H.next)(x y:Span):af E (aC 219) [bn x,bn y] H fun r H'=>r= .bool (decide (lC x y))∧aq H H':=by
 refine aQ Tryz.f219 ?_
 simp only[Tryz.f219]
 simp only[bn]
 repeat'(first|(apply ao<;>intro)|refine az 1 [Fx,Fx,Fx,Fx,Fx,Fx,Fx,Fx,Fx,Fx,Fx,Fx,Fx,Fx,Fx,Tx,Fx,Fx,Fx,Fx,Fx] ?_|((with_reducible show af _ _ _ _ _);(first|refine ak H (qL _ ah _) ?_|refine ak H (qM _ ah _ (by assumption)) ?_);intro H2 k2 l2 n2 g2 q2;try simp(disch:=omega)only[sm,sl]at l2 n2 g2 q2)|simp(disch:=omega)only[↓aa,ab,simprocAttr,sa, *])
 all_goals((with_reducible show _∧_);exact⟨fe (by simp only[wT,wG,wbh,wa5,lC];first|omega|(simp[*]<;>omega)),aF⟩)
def cm.Ok(c:cm):Prop:=2≤c.mh∧c.mh≤32768∧1≤c.fL∧c.fL≤c.mh∧0≤c.mj∧c.mj≤32768∧1≤c.bj∧c.bj≤1024
instance(c:cm):Decidable c.Ok:=by unfold cm.Ok;infer_instance
theorem DP(H:Heap)(aj:H.lo≤H.next)(c:cm):af E (aC 55) [cD c] H fun r H'=>r= .bool (decide c.Ok)∧aq H H':=by
 refine aQ Tryz.f55 ?_
 simp only[Tryz.f55]
 simp only[cD]
 repeat'(first|(apply ao<;>intro)|simp(disch:=omega)only[↓aa,ab,simprocAttr,sa, *])
 all_goals((with_reducible show _∧_);exact⟨fe (by simp only[wT,wG,wbh,wa5,cm.Ok];first|omega|(simp[*]<;>omega)),aF⟩)
def cm.words(c:cm):Int:=if c.Ok then 2*c.mh+c.mj else 0
theorem ZY(H:Heap)(aj:H.lo≤H.next)(c:cm):af E (aC 56) [cD c] H fun r H'=>r= .int .i64 c.words∧aq H H':=by
 refine aQ Tryz.f56 ?_
 simp only[Tryz.f56]
 simp only[cD]
 repeat'(first|(refine ao (fun hd=>?_) (fun hd=>?_)<;>try simp only[cm.Ok]at hd)|apply bQ|((with_reducible show af _ _ _ _ _);refine ak H (DP _ ah _) ?_;intro H2 k2 l2 n2 g2 q2;try simp(disch:=omega)only[sm,sl]at l2 n2 g2 q2)|simp(disch:=omega)only[↓aa,ab,simprocAttr,sa, *])
 all_goals refine⟨?_,by exact aF⟩
 all_goals(simp only[cm.words];split<;>first|rfl|contradiction)
def cm.yw(c:cm):Span:=if c.mj=0 then⟨0,0⟩else⟨2*c.mh,c.mj⟩
def cm.dI(c:cm)(s:Bool):Span:=if c.Ok then(if s then⟨c.mh,c.mh⟩else⟨0,c.mh⟩)else⟨0,0⟩
def cm.jr(c:cm):Span:=if c.Ok then c.yw else⟨0,0⟩
def DQ(a b l:Span):Value:= .agg #[.int .i64 a.ae,.int .i64 a.size,.int .i64 b.ae,.int .i64 b.size,.int .i64 l.ae,.int .i64 l.size]
theorem Oo(H:Heap)(aj:H.lo≤H.next)(c:cm)(s:Bool):af E (aC 101) [cD c,.bool s] H fun r H'=>r=DQ (c.dI s) (c.dI (!s)) c.jr∧aq H H':=by
 refine aQ Tryz.f101 ?_
 simp only[Tryz.f101]
 simp only[cD]
 repeat'(first|(refine ao (fun hd=>?_) (fun hd=>?_)<;>try simp only[cm.Ok]at hd)|apply bQ|refine kV (fun _=>?_) (fun _=>?_)|((with_reducible show af _ _ _ _ _);refine ak H (DP _ ah _) ?_;intro H2 k2 l2 n2 g2 q2;try simp(disch:=omega)only[sm,sl]at l2 n2 g2 q2)|simp(disch:=omega)only[↓aa,ab,simprocAttr,sa, *])
 all_goals(first|(with_reducible exact aF)|((with_reducible show _∧_);exact⟨by first|rfl|(simp[DQ,cm.dI,cm.jr,cm.yw,cm.Ok, *]<;>omega),aF⟩))
theorem Ho(H:Heap)(aj:H.lo≤H.next)(c:cm)(s:Bool):af E (aC 163) [cD c,.bool s] H fun r H'=>r=bn (c.dI s)∧aq H H':=by
 refine aQ Tryz.f163 ?_
 simp only[Tryz.f163]
 simp only[cD]
 repeat'(first|((with_reducible show af _ _ _ _ _);refine ak H (Oo _ ah _ _) ?_;intro H2 k2 l2 n2 g2 q2;try simp(disch:=omega)only[sm,sl]at l2 n2 g2 q2)|simp(disch:=omega)only[↓aa,ab,simprocAttr,sa,DQ, *])
 all_goals(first|(with_reducible exact aF)|((with_reducible show _∧_);exact⟨by first|rfl|(simp[bn, *]<;>omega),aF⟩))
theorem Oq(H:Heap)(aj:H.lo≤H.next)(c:cm):af E (aC 57) [cD c] H fun r H'=>r=bn c.jr∧aq H H':=by
 refine aQ Tryz.f57 ?_
 simp only[Tryz.f57]
 simp only[cD]
 repeat'(first|((with_reducible show af _ _ _ _ _);refine ak H (Oo _ ah _ _) ?_;intro H2 k2 l2 n2 g2 q2;try simp(disch:=omega)only[sm,sl]at l2 n2 g2 q2)|simp(disch:=omega)only[↓aa,ab,simprocAttr,sa,DQ, *])
 all_goals(first|(with_reducible exact aF)|((with_reducible show _∧_);exact⟨by first|rfl|(simp[bn, *]<;>omega),aF⟩))
def cm.Small(c:cm)(n:Int):Prop:=c.Ok∧1≤n∧n≤c.fL
instance(c:cm)(n:Int):Decidable (c.Small n):=by unfold cm.Small;infer_instance
theorem DR(H:Heap)(aj:H.lo≤H.next)(c:cm)(n:Int):af E (aC 241) [cD c,.int .i64 n] H fun r H'=>r= .bool (decide (c.Small n))∧aq H H':=by
 refine aQ Tryz.f241 ?_
 simp only[Tryz.f241]
 simp only[cD]
 repeat'(first|(apply ao<;>intro)|((with_reducible show af _ _ _ _ _);refine ak H (DP _ ah _) ?_;intro H2 k2 l2 n2 g2 q2;try simp(disch:=omega)only[sm,sl]at l2 n2 g2 q2)|simp(disch:=omega)only[↓aa,ab,simprocAttr,sa, *])
 all_goals((with_reducible show _∧_);exact⟨fe (by simp only[wT,wG,wbh,wa5,cm.Small];first|omega|(simp[*]<;>omega)),aF⟩)
def vV(a b:Int):Int:=if a<b then -1 else if b<a then 1 else 0
theorem zaf(H:Heap)(aj:H.lo≤H.next)(a:Int):af E (aC 214) [.int .i64 a] H fun r H'=>r= .bool false∧aq H H':=by
 refine aQ Tryz.f214 ?_
 simp only[Tryz.f214]
 simp(disch:=omega)only[↓aa,ab,simprocAttr,sa, *]
 exact xW
theorem zag(H:Heap)(aj:H.lo≤H.next)(a b:Int):af E (aC 325) [.int .i64 a,.int .i64 b] H fun r H'=>r= .int .i64 (vV a b)∧aq H H':=by
 refine aQ Tryz.f325 ?_
 simp only[Tryz.f325]
 repeat'(first|(apply ao<;>intro)|((with_reducible show af _ _ _ _ _);refine ak H (zaf _ ah _) ?_;intro H2 k2 l2 n2 g2 q2;try simp(disch:=omega)only[sm,sl]at l2 n2 g2 q2)|simp(disch:=omega)only[↓aa,ab,simprocAttr,sa, *])
 all_goals(first|(with_reducible exact aF)|((with_reducible show _∧_);exact⟨by first|rfl|(simp[vV, *]<;>omega),aF⟩))
def yA(a b:Int):Int:=if a=0 then b else a
theorem zah(H:Heap)(aj:H.lo≤H.next)(r0:Nat)(a b:Int)(hr:r0<H.next)(aG:H.objs.get r0=some (.row [.int .i64 a,.int .i64 b] none true)):af E (aC 324) [.slice (some ⟨r0,0,none⟩) 2 2] H fun r H'=>r= .int .i64 (yA a b)∧aq H H':=by
 refine aQ Tryz.f324 ?_
 simp only[Tryz.f324]
 simp(disch:=omega)only[↓aa,ab,simprocAttr,sa, *]
 refine bC H [3,6,7,8] (fun T1 H1 u1 k1 n1 l1 g1=>?_) aw
 try simp(disch:=omega)only[sm,sl]at n1 l1 g1
 simp only[sq,simprocAttr]at u1
 refine bt kq (fun nn T X=>∃ i:Nat,nn=2-i∧(T.get 8=some (.int .i64 i))∧(T.get 3=T1.get 3∧T.get 6=T1.get 6∧T.get 7=T1.get 7)∧Ko H1 X∧X.lo=H1.lo∧(i≤2∧(0<i→a=0)∧(1<i→b=0))) ?_ ?_
 ·refine⟨_,0,rfl,?_,?_,Ko.refl _,rfl,⟨by omega,by omega,by omega⟩⟩<;>exact ay
 rintro nn fk X1 ⟨i,rfl,m1,w1,bu,iz,⟨hi,ha,hb⟩⟩ Qs hQ aD ai
 have cw:=k1.trans bu;have fp:=bu.ag;have fX:=bu.objs
 have e1:=cw.objs r0 hr
 match i,hi with
 |0,_=>
  have a1:at? ((0:Nat):Int) 2=some 0:=rfl
  repeat'(first|(apply ao<;>intro)|apply bQ|((with_reducible show Qs _ _ _ _ _);refine aD _ _ _ ?_)|simp(disch:=omega)only[↓aa,ab,simprocAttr,sa, *,wcg])
  all_goals first
   |(refine hQ _ _ _ ?_ ⟨1,rfl,?_,?_,?_,?_,⟨by omega,fun _=>by assumption,by omega⟩⟩<;>exact ay)
   |(first|(with_reducible exact aF)|((with_reducible show _∧_);exact⟨by first|rfl|(simp[yA, *]<;>omega),aF⟩))
   |omega
 |1,_=>
  have a1:at? ((1:Nat):Int) 2=some 1:=rfl
  repeat'(first|(apply ao<;>intro)|apply bQ|((with_reducible show Qs _ _ _ _ _);refine aD _ _ _ ?_)|simp(disch:=omega)only[↓aa,ab,simprocAttr,sa, *,Int.natCast_one])
  all_goals first
   |(refine hQ _ _ _ ?_ ⟨2,rfl,?_,?_,?_,?_,⟨by omega,by omega,fun _=>by assumption⟩⟩<;>exact ay)
   |(first|(with_reducible exact aF)|((with_reducible show _∧_);exact⟨by first|rfl|(simp[yA, *]<;>omega),aF⟩))
   |omega
 |2,_=>
  have ha:=ha (by omega)
  have hb:=hb (by omega)
  repeat'(first|((with_reducible show Qs _ _ _ _ _);refine ai _ _ _ _ ?_)|simp(disch:=omega)only[↓aa,ab,simprocAttr,sa, *])
  all_goals first
   |(first|(with_reducible exact aF)|((with_reducible show _∧_);exact⟨by first|rfl|(simp[yA, *]<;>omega),aF⟩))
   |omega
def vW(x y:Span):Int:=yA (vV x.ae y.ae) (vV x.size y.size)
theorem AO(H:Heap)(aj:H.lo≤H.next)(x y:Span):af E (aC 313) [bn x,bn y] H fun r H'=>r= .int .i64 (vW x y)∧aq H H':=by
 refine aQ Tryz.f313 ?_
 simp only[Tryz.f313]
 simp only[bn]
 repeat'(first|refine az 1 [Fx,Fx,Fx,Fx,Tx,Fx,Fx,Fx,Fx,Fx,Fx,Fx,Fx] ?_|((with_reducible show af _ _ _ _ _);(first|refine ak H (zag _ ah _ _) ?_|refine ak H (zah _ ah _ (vV x.ae y.ae) (vV x.size y.size) ah (by simp(disch:=omega)only[aA,aM,aB,aJ,aH,aI,aN,aO,aR,aP,aL,aE,aK,au,sl])) ?_);intro H2 k2 l2 n2 g2 q2;try simp(disch:=omega)only[sm,sl]at l2 n2 g2 q2)|simp(disch:=omega)only[↓aa,ab,simprocAttr,sa,cC,iN,eF,wL,wat,wY,waA,waV,waZ, *])
 all_goals(first|(with_reducible exact aF)|((with_reducible show _∧_);exact⟨by first|rfl|(simp[vW, *]<;>omega),aF⟩))
def sg(l:List Span):Prop:=∀ (i j:Nat) (x y:Span),i<j→l[i]? =some x→l[j]? =some y→x.ae<y.ae
theorem OD{x y:Span}(h:x.ae<y.ae):vW y x=1∧vW x y= -1:=by
 unfold vW yA vV
 have h1:¬ y.ae<x.ae:=by omega
 simp[h,h1]
def bD:Heap→List Value→Span→Prop:=fun _ part x=>part=[.int .i64 x.ae,.int .i64 x.size]
theorem bD.mono:oM bD:=fun _ _ _ _ _ h=>h
theorem OF(H:Heap)(aj:H.lo≤H.next)(v:Value)(l:List Span)(hv:SL bD 2 H v l)(hr:sg l)(a b:Nat)(CE:a≤b)(hb:b≤l.length)(hl:l.length≤100000):af E (aC 328) [v,.int .i64 a,.int .i64 b,aC 313] H fun r H'=>r= .tuple #[]∧aq H H':=by
 obtain⟨ad,ca,rfl,⟨_,jP⟩,bJ⟩:=hv
 refine aQ Tryz.f328 ?_
 simp only[Tryz.f328]
 simp(disch:=omega)only[↓aa,ab,simprocAttr,sa, *]
 refine bC H [0,1,2,3,8] (fun T1 H1 u1 k1 n1 l1 g1=>?_) aw
 try simp(disch:=omega)only[sm,sl]at n1 l1 g1
 simp only[sq,simprocAttr]at u1
 refine bt kq (fun nn T X=>∃ i:Nat,nn=b-i∧(T.get 8=some (.int .i64 i))∧(T.get 0=T1.get 0∧T.get 1=T1.get 1∧T.get 2=T1.get 2∧T.get 3=T1.get 3)∧True∧True∧(a<i∧i≤max b (a+1)∧Ko H X∧X.lo=H.lo)) ?_ ?_
 ·refine⟨_,a+1,rfl,?_,?_,trivial,trivial,⟨by omega,by omega,by assumption,by assumption⟩⟩<;>exact ay
 rintro nn fk X1 ⟨i,rfl,m1,w1,_,_,⟨hi,yj,cw,lX1⟩⟩ Qs hQ aD ai
 have nX1:=cw.ag;have gX1:=cw.objs
 by_cases hlt:i<b
 ·repeat'(first|(apply ao<;>intro)|((with_reducible show Qs _ _ _ _ _);refine ai _ _ _ _ ?_)|simp(disch:=omega)only[↓aa,ab,simprocAttr,sa, *])
  all_goals try omega
  have DV:=hQ
  refine bC H [0,1,2,3,8,9] (fun T2 H2 u2 k2 n2 l2 g2=>?_) aw
  try simp(disch:=omega)only[sm,sl]at n2 l2 g2
  simp only[sq,simprocAttr]at u2
  refine bt kq (fun nn T X=>nn=0∧(T.get 9=some (.int .i64 i))∧(T.get 0=T2.get 0∧T.get 1=T2.get 1∧T.get 2=T2.get 2∧T.get 3=T2.get 3∧T.get 8=T2.get 8)∧Ko H2 X∧X.lo=H2.lo∧(True)) ?_ ?_
  ·refine⟨_,rfl,?_,?_,Ko.refl _,rfl,trivial⟩<;>exact ay
  rintro nn vX X2 ⟨rfl,m2,w2,pF,OG,_⟩ Qs hQ aD ai
  have gA:=k2.trans pF;have qQ:=pF.ag;have OH:=pF.objs
  obtain⟨r,o,cells,gg,tt,part,rfl,km,aG,a8,rfl⟩:=bJ i l[i] (by simp)
  obtain⟨r',o',cells',Hu,Hv,Ay,e,dW,kF,si,rfl⟩:=bJ (i-1) l[i-1] (by simp)
  cases e
  rw[aG]at kF
  cases kF
  have hby:=(OD (hr (i-1) i l[i-1] l[i] (by omega) (by simp) (by simp))).1
  have a1:=bI (show i<l.length by omega)
  have a2:at? ((i:Int)-1) l.length=some (i-1):=by rw[show(i:Int)-1=((i-1:Nat):Int) by omega];exact bI (by omega)
  have e1:=gA.objs r km
  have a3:((i:Int)-1).toNat=i-1:=by omega
  repeat'(first|(apply ao<;>intro)|refine az 4 [Fx,Fx,Fx,Fx,Fx,Fx,Fx,Fx,Fx,Fx,Fx,Fx,Fx,Fx,Fx,Fx,Fx] ?_|((with_reducible show af _ _ _ _ _);refine ak H (AO _ ah _ _) ?_;intro H2 k2 l2 n2 g2 q2;try simp(disch:=omega)only[sm,sl]at l2 n2 g2 q2)|((with_reducible show Qs _ _ _ _ _);refine ai _ _ _ _ ?_)|simp(disch:=omega)only[↓aa,ab,simprocAttr,sa, *])
  all_goals try omega
  have hQ:=DV
  refine hQ _ _ _ ?_ ⟨i+1,rfl,?_,?_,trivial,trivial,⟨by omega,by omega,?_,?_⟩⟩<;>exact ay
 ·repeat'(first|(apply ao<;>intro)|((with_reducible show Qs _ _ _ _ _);refine ai _ _ _ _ ?_)|simp(disch:=omega)only[↓aa,ab,simprocAttr,sa, *])
  ·omega
  exact xW
theorem AV(a b:Nat):((a:Int)+b).fdiv (2^(min 1 (IntKind.bits .u64)))=((a+b)/2:Nat):=by
 have:(min 1 (IntKind.bits .u64))=1:=rfl
 rw[this,wcw _ (by omega)]
 omega
theorem D5{l:List Span}(hr:sg l){i j:Nat}(kp:i<j)(hj:j<l.length):vW l[j] l[i]=1∧vW l[i] l[j]= -1:=
 OD (hr i j l[i] l[j] kp (wj (by omega)) (wj hj))
theorem OT(n:Nat):∀ (H:Heap) (_:H.lo≤H.next) (v:Value) (l:List Span) (_:SL bD 2 H v l) (_:sg l) (a m b:Nat) (_:b-a≤n) (_:a<m) (_:m<b) (_:b≤l.length) (_:l.length≤100000),af E (aC 329) [v,.int .i64 a,.int .i64 m,.int .i64 b,aC 313] H fun r H'=>r= .tuple #[]∧aq H H':=by
 induction n
 ·intros;omega
 rename_i n ih
 intro H aj v l iP hr a m b hn OU so hb hl
 have hv:=iP
 obtain⟨ad,ca,rfl,⟨_,jP⟩,bJ⟩:=hv
 obtain⟨r,o,cells,gg,tt,part,rfl,km,aG, -⟩:=bJ a l[a] (by simp)
 have a8:∀ i (hi:i<l.length),cut cells (o+i*2) 2=some [.int .i64 l[i].ae,.int .i64 l[i].size]:=fun i hi=>by
  obtain⟨r',o',cells',Hu,Hv,Ay,e,dW,kF,si,e2⟩:=bJ i l[i] (by simp)
  cases e
  rw[aG]at kF
  cases kF
  rw[si,e2]
 have OV:=AV a b
 refine aQ Tryz.f329 ?_
 simp only[Tryz.f329]
 repeat'(first|refine ao (fun _=>?_) (fun _=>?_)|simp(disch:=omega)only[↓aa,ab,simprocAttr,sa,wrap_u64,shift_shr, *])
 case succ.refine_1=>
  refine bC H [0,1,4,10,11] (fun T1 H1 u1 k1 n1 l1 g1=>?_) aw
  try simp(disch:=omega)only[sm,sl]at n1 l1 g1
  simp only[sq,simprocAttr]at u1
  refine bt kq (fun nn T X=>∃ j:Nat,nn=j-m∧(T.get 10=some (.int .i64 m)∧T.get 11=some (.int .i64 j))∧(T.get 0=T1.get 0∧T.get 1=T1.get 1∧T.get 4=T1.get 4)∧Ko H1 X∧X.lo=H1.lo∧(m≤j∧j≤b)) ?_ ?_
  ·refine⟨_,b,rfl,?_,?_,Ko.refl _,rfl,⟨by omega,by omega⟩⟩<;>exact ay
  rintro nn fk X1 ⟨j,rfl,m1,w1,bu,iz,⟨hj,tq⟩⟩ Qs hQ aD ai
  have cw:=k1.trans bu;have fp:=bu.ag;have fX:=bu.objs
  have e1:=cw.objs r km
  by_cases hlt:m<j
  ·have hm:m≤(m+j)/2∧(m+j)/2<j:=by omega
   have v5:=AV m j
   generalize (m+j)/2=h at hm v5
   have HO:=a8 h (by omega)
   have HP:=a8 a (by omega)
   have a1:=bI (show h<l.length by omega)
   have a2:=bI (show a<l.length by omega)
   have gV:=(D5 hr (show a<h by omega) (by omega)).1
   repeat'(first|refine ao (fun _=>?_) (fun _=>?_)|refine az 5 [Fx,Fx,Fx,Fx,Fx,Fx,Fx,Fx,Fx,Fx,Fx] ?_|((with_reducible show af _ _ _ _ _);refine ak H1 (AO _ ah l[h] l[a]) ?_;intro H2 k2 l2 n2 g2 q2;try simp(disch:=omega)only[sm,sl]at l2 n2 g2 q2)|((with_reducible show Qs _ _ _ _ _);refine ai _ _ _ _ ?_)|simp(disch:=omega)only[↓aa,ab,simprocAttr,sa,wrap_u64,shift_shr, *])
   all_goals try omega
   all_goals(refine hQ _ _ _ ?_ ⟨h,rfl,?_,?_,?_,?_,⟨by omega,by omega⟩⟩<;>exact ay)
  ·repeat'(first|refine ao (fun _=>?_) (fun _=>?_)|((with_reducible show Qs _ _ _ _ _);refine ai _ _ _ _ ?_)|simp(disch:=omega)only[↓aa,ab,simprocAttr,sa, *])
   all_goals try omega
   refine bC H [0,10,13] (fun T2 H2 u2 k2 n2 l2 g2=>?_) aw
   try simp(disch:=omega)only[sm,sl]at n2 l2 g2
   simp only[sq,simprocAttr]at u2
   refine bt kq (fun nn T X=>nn=0∧(T.get 13=some (.int .i64 a))∧(T.get 0=T2.get 0∧T.get 10=T2.get 10)∧Ko H2 X∧X.lo=H2.lo∧(True)) ?_ ?_
   ·refine⟨_,rfl,?_,?_,Ko.refl _,rfl,trivial⟩<;>exact ay
   rintro nn vX X2 ⟨rfl,m2,w2,pF,OG,_⟩ Qs hQ aD ai
   have gA:=k2.trans pF;have qQ:=pF.ag;have OH:=pF.objs
   have a1:((m:Int)-1)=a:=by omega
   repeat'(first|refine ao (fun _=>?_) (fun _=>?_)|refine az 11 [Fx,Fx,Fx,Fx,Fx,Fx,Fx,Fx,Fx,Fx,Fx,Fx,Fx,Fx,Fx,Fx,Fx,Fx] ?_|((with_reducible show Qs _ _ _ _ _);refine ai _ _ _ _ ?_)|simp(disch:=omega)only[↓aa,ab,simprocAttr,sa, *])
   all_goals first
    |exact xW
    |omega
 case succ.refine_2.refine_1=>
  refine bC H [0,2,4,14,15] (fun T1 H1 u1 k1 n1 l1 g1=>?_) aw
  try simp(disch:=omega)only[sm,sl]at n1 l1 g1
  simp only[sq,simprocAttr]at u1
  refine bt kq (fun nn T X=>∃ i:Nat,nn=m-i∧(T.get 14=some (.int .i64 i)∧T.get 15=some (.int .i64 m))∧(T.get 0=T1.get 0∧T.get 2=T1.get 2∧T.get 4=T1.get 4)∧Ko H1 X∧X.lo=H1.lo∧(a≤i∧i≤m)) ?_ ?_
  ·refine⟨_,a,rfl,?_,?_,Ko.refl _,rfl,⟨by omega,by omega⟩⟩<;>exact ay
  rintro nn fk X1 ⟨i,rfl,m1,w1,bu,iz,⟨hj,tq⟩⟩ Qs hQ aD ai
  have cw:=k1.trans bu;have fp:=bu.ag;have fX:=bu.objs
  have e1:=cw.objs r km
  by_cases hlt:i<m
  ·have hm:i≤(i+m)/2∧(i+m)/2<m:=by omega
   have v5:=AV i m
   generalize (i+m)/2=h at hm v5
   have HO:=a8 h (by omega)
   have HP:=a8 m (by omega)
   have a1:=bI (show h<l.length by omega)
   have a2:=bI (show m<l.length by omega)
   have gV:=(D5 hr (show h<m by omega) (by omega)).1
   repeat'(first|refine ao (fun _=>?_) (fun _=>?_)|refine az 17 [Fx,Fx,Fx,Fx,Fx,Fx,Fx,Fx,Fx,Fx,Fx,Fx] ?_|((with_reducible show af _ _ _ _ _);refine ak H1 (AO _ ah l[m] l[h]) ?_;intro H2 k2 l2 n2 g2 q2;try simp(disch:=omega)only[sm,sl]at l2 n2 g2 q2)|((with_reducible show Qs _ _ _ _ _);refine ai _ _ _ _ ?_)|simp(disch:=omega)only[↓aa,ab,simprocAttr,sa,wrap_u64,shift_shr, *])
   all_goals try omega
   all_goals(refine hQ _ _ _ ?_ ⟨h+1,rfl,?_,?_,?_,?_,⟨by omega,by omega⟩⟩<;>exact ay)
  ·repeat'(first|refine ao (fun _=>?_) (fun _=>?_)|((with_reducible show Qs _ _ _ _ _);refine ai _ _ _ _ ?_)|simp(disch:=omega)only[↓aa,ab,simprocAttr,sa, *])
   all_goals try omega
   refine bC H [0,14,17] (fun T2 H2 u2 k2 n2 l2 g2=>?_) aw
   try simp(disch:=omega)only[sm,sl]at n2 l2 g2
   simp only[sq,simprocAttr]at u2
   refine bt kq (fun nn T X=>nn=0∧(T.get 17=some (.int .i64 m))∧(T.get 0=T2.get 0∧T.get 14=T2.get 14)∧Ko H2 X∧X.lo=H2.lo∧(True)) ?_ ?_
   ·refine⟨_,rfl,?_,?_,Ko.refl _,rfl,trivial⟩<;>exact ay
   rintro nn vX X2 ⟨rfl,m2,w2,pF,OG,_⟩ Qs hQ aD ai
   have gA:=k2.trans pF;have qQ:=pF.ag;have OH:=pF.objs
   repeat'(first|((with_reducible show Qs _ _ _ _ _);refine ai _ _ _ _ ?_)|simp(disch:=omega)only[↓aa,ab,simprocAttr,sa, *])
   all_goals first
    |exact xW
    |omega
 all_goals
  generalize hM:(a+b)/2=M at OV⊢
  have hM1:a<M∧M<b:=by omega
 case succ.refine_2.refine_2.refine_1=>
  have z1:(M:Int)+m-b=(M+m-b:Nat):=by omega
  refine bC H [0,1,2,3,4,18,19,20,21,22] (fun T1 H1 u1 k1 n1 l1 g1=>?_) aw
  try simp(disch:=omega)only[sm,sl]at n1 l1 g1
  simp only[sq,simprocAttr]at u1
  refine bt kq (fun nn T X=>∃ s:Nat,nn=M-s∧(T.get 20=some (.int .i64 s)∧T.get 21=some (.int .i64 M))∧(T.get 0=T1.get 0∧T.get 1=T1.get 1∧T.get 2=T1.get 2∧T.get 3=T1.get 3∧T.get 4=T1.get 4∧T.get 18=T1.get 18∧T.get 19=T1.get 19∧T.get 22=T1.get 22)∧Ko H1 X∧X.lo=H1.lo∧(M+m-b≤s∧s≤M)) ?_ ?_
  ·refine⟨_,M+m-b,rfl,?_,?_,Ko.refl _,rfl,⟨by omega,by omega⟩⟩<;>exact ay
  rintro nn fk X1 ⟨s,rfl,m1,w1,bu,iz,⟨hj,tq⟩⟩ Qs hQ aD ai
  have cw:=k1.trans bu;have fp:=bu.ag;have fX:=bu.objs
  have e1:=cw.objs r km
  by_cases hlt:s<M
  ·have hm:s≤(s+M)/2∧(s+M)/2<M:=by omega
   have v5:=AV s M
   generalize (s+M)/2=c at hm v5
   have z2:(M:Int)+m-1-c=(M+m-1-c:Nat):=by omega
   have hz:c<M+m-1-c∧M+m-1-c<b:=by omega
   generalize M+m-1-c=p at z2 hz
   have HO:=a8 p (by omega)
   have HP:=a8 c (by omega)
   have a1:=bI (show p<l.length by omega)
   have a2:=bI (show c<l.length by omega)
   have gV:=(D5 hr (show c<p by omega) (by omega)).1
   repeat'(first|refine ao (fun _=>?_) (fun _=>?_)|refine az 35 [Fx,Fx,Fx,Fx,Fx,Fx,Fx,Fx,Fx,Fx,Fx,Fx,Fx,Fx] ?_|((with_reducible show af _ _ _ _ _);refine ak H1 (AO _ ah l[p] l[c]) ?_;intro H2 k2 l2 n2 g2 q2;try simp(disch:=omega)only[sm,sl]at l2 n2 g2 q2)|((with_reducible show Qs _ _ _ _ _);refine ai _ _ _ _ ?_)|simp(disch:=omega)only[↓aa,ab,simprocAttr,sa,wrap_u64,shift_shr, *])
   all_goals try omega
   all_goals(refine hQ _ _ _ ?_ ⟨c+1,rfl,?_,?_,?_,?_,⟨by omega,by omega⟩⟩<;>exact ay)
  ·obtain rfl:s=M:=by omega
   have z3:(s:Int)+m-s=m:=by omega
   repeat'(first|refine ao (fun _=>?_) (fun _=>?_)|((with_reducible show af _ _ _ _ _);refine ak H (ih _ ah _ l (iP.ext bD.mono (Ko.ext aw)) hr s m b (by omega) (by omega) so hb hl) ?_;intro H2 k2 l2 n2 g2 q2;try simp(disch:=omega)only[sm,sl]at l2 n2 g2 q2)|((with_reducible show Qs _ _ _ _ _);refine ai _ _ _ _ ?_)|simp(disch:=omega)only[↓aa,ab,simprocAttr,sa, *])
   all_goals first
    |exact xW
    |omega
 case succ.refine_2.refine_2.refine_2=>
  refine bC H [0,1,2,3,4,18,19,20,21,22] (fun T1 H1 u1 k1 n1 l1 g1=>?_) aw
  try simp(disch:=omega)only[sm,sl]at n1 l1 g1
  simp only[sq,simprocAttr]at u1
  refine bt kq (fun nn T X=>∃ s:Nat,nn=m-s∧(T.get 20=some (.int .i64 s)∧T.get 21=some (.int .i64 m))∧(T.get 0=T1.get 0∧T.get 1=T1.get 1∧T.get 2=T1.get 2∧T.get 3=T1.get 3∧T.get 4=T1.get 4∧T.get 18=T1.get 18∧T.get 19=T1.get 19∧T.get 22=T1.get 22)∧Ko H1 X∧X.lo=H1.lo∧(a≤s∧s≤m)) ?_ ?_
  ·refine⟨_,a,rfl,?_,?_,Ko.refl _,rfl,⟨by omega,by omega⟩⟩<;>exact ay
  rintro nn fk X1 ⟨s,rfl,m1,w1,bu,iz,⟨hj,tq⟩⟩ Qs hQ aD ai
  have cw:=k1.trans bu;have fp:=bu.ag;have fX:=bu.objs
  have e1:=cw.objs r km
  by_cases hlt:s<m
  ·have hm:s≤(s+m)/2∧(s+m)/2<m:=by omega
   have v5:=AV s m
   generalize (s+m)/2=c at hm v5
   have z2:(M:Int)+m-1-c=(M+m-1-c:Nat):=by omega
   have hz:c<M+m-1-c∧M+m-1-c<b:=by omega
   generalize M+m-1-c=p at z2 hz
   have HO:=a8 p (by omega)
   have HP:=a8 c (by omega)
   have a1:=bI (show p<l.length by omega)
   have a2:=bI (show c<l.length by omega)
   have gV:=(D5 hr (show c<p by omega) (by omega)).1
   repeat'(first|refine ao (fun _=>?_) (fun _=>?_)|refine az 35 [Fx,Fx,Fx,Fx,Fx,Fx,Fx,Fx,Fx,Fx,Fx,Fx,Fx,Fx] ?_|((with_reducible show af _ _ _ _ _);refine ak H1 (AO _ ah l[p] l[c]) ?_;intro H2 k2 l2 n2 g2 q2;try simp(disch:=omega)only[sm,sl]at l2 n2 g2 q2)|((with_reducible show Qs _ _ _ _ _);refine ai _ _ _ _ ?_)|simp(disch:=omega)only[↓aa,ab,simprocAttr,sa,wrap_u64,shift_shr, *])
   all_goals try omega
   all_goals(refine hQ _ _ _ ?_ ⟨c+1,rfl,?_,?_,?_,?_,⟨by omega,by omega⟩⟩<;>exact ay)
  ·obtain rfl:s=m:=by omega
   have z3:(M:Int)+s-s=M:=by omega
   repeat'(first|refine ao (fun _=>?_) (fun _=>?_)|((with_reducible show af _ _ _ _ _);refine ak H (ih _ ah _ l (iP.ext bD.mono (Ko.ext aw)) hr a s M (by omega) OU (by omega) (by omega) hl) ?_;intro H2 k2 l2 n2 g2 q2;try simp(disch:=omega)only[sm,sl]at l2 n2 g2 q2)|((with_reducible show Qs _ _ _ _ _);refine ai _ _ _ _ ?_)|simp(disch:=omega)only[↓aa,ab,simprocAttr,sa, *])
   all_goals first
    |exact xW
    |omega
theorem yO{a:Nat}(h:a<2^64):(BitVec.ofInt 64 (a:Int)).toNat=a:=by
 rw[BitVec.ofInt_natCast,BitVec.toNat_ofNat,Nat.mod_eq_of_lt h]
theorem Hp{a b:Nat}(ha:a<2^64)(hb:b<2^64):intOp .and .u64 (a:Int) (b:Int)=some (.int .u64 ((a&&&b:Nat):Int)):=by
 have e:intOp .and .u64 (a:Int) (b:Int)=fF .u64 (((BitVec.ofInt 64 (a:Int)&&&BitVec.ofInt 64 (b:Int)).toNat:Nat):Int):=rfl
 rw[e,BitVec.toNat_and,yO ha,yO hb,oL,wrap_u64 (by omega)]
 have:a&&&b≤a:=Nat.and_le_left
 have IN:(2:Nat)^64=18446744073709551616:=by decide
 omega
theorem Ou{a b:Nat}(ha:a<2^64)(hb:b<2^64):intOp .or .u64 (a:Int) (b:Int)=some (.int .u64 ((a|||b:Nat):Int)):=by
 have e:intOp .or .u64 (a:Int) (b:Int)=fF .u64 (((BitVec.ofInt 64 (a:Int)|||BitVec.ofInt 64 (b:Int)).toNat:Nat):Int):=rfl
 rw[e,BitVec.toNat_or,yO ha,yO hb,oL,wrap_u64 (by omega)]
 have:a|||b<2^64:=Nat.or_lt_two_pow ha hb
 have IN:(2:Nat)^64=18446744073709551616:=by decide
 omega
def andNot(a b:Nat):Nat:=a&&&(2^64-1-b)
theorem PN{a b:Nat}(ha:a<2^64)(hb:b<2^64):intOp .andNot .u64 (a:Int) (b:Int)=some (.int .u64 ((andNot a b:Nat):Int)):=by
 have e:intOp .andNot .u64 (a:Int) (b:Int)=fF .u64 (((BitVec.ofInt 64 (a:Int)&&& ~~~BitVec.ofInt 64 (b:Int)).toNat:Nat):Int):=rfl
 rw[e,BitVec.toNat_and,BitVec.toNat_not,yO ha,yO hb,oL,wrap_u64 (by omega)]
 ·rfl
 ·have:a&&&(2^64-1-b)≤a:=Nat.and_le_left
  have IN:(2:Nat)^64=18446744073709551616:=by decide
  omega
theorem PO:IntKind.u64.bits=64:=rfl
theorem Hq{a n:Nat}(ha:a<2^64)(hn:n<64):shiftOp .shr .u64 (a:Int) (n:Int)=some (.int .u64 ((a/2^n:Nat):Int)):=by
 rw[shift_shr _ _ _ (by omega),PO,waD,waS (by omega)]
 congr 2
 rw[wcw _ (Int.pow_nonneg (by decide))]
 norm_cast
theorem Eo{a n:Nat}(hn:n<64)(h:a*2^n<2^64):shiftOp .shl .u64 (a:Int) (n:Int)=some (.int .u64 ((a*2^n:Nat):Int)):=by
 rw[shift_shl _ _ _ (by omega),PO,waD,waS (by omega)]
 have e:(a:Int)*2^n=((a*2^n:Nat):Int):=by norm_cast
 have IN:(2:Nat)^64=18446744073709551616:=by decide
 rw[e,wrap_u64 (by omega) (by omega)]
def jy(n:Nat):Nat:=if 64≤n then 18446744073709551615 else 2^n-1
theorem PQ(n:Nat):jy n<2^64:=by
 unfold jy
 split
 ·decide
 ·have:2^n≤2^64:=wbg (by omega) (by omega)
  have:0<2^n:=wcu (by omega)
  omega
theorem IP(H:Heap)(n:Nat):af E (aC 203) [.int .i64 (n:Int)] H fun r H'=>r= .int .u64 (jy n:Nat)∧H'=H:=by
 refine aQ Tryz.f203 ?_
 simp only[Tryz.f203]
 by_cases h:64≤n
 ·have d:decide ((64:Int)≤(n:Int))=true:=by rw[waL];omega
  simp(disch:=omega)only[↓aa,ab,simprocAttr,sa,d]
  rw[jy,wF h];rfl
 ·have d:decide ((64:Int)≤(n:Int))=false:=by rw[wal];omega
  have hp:2^n≤2^63:=wbg (by omega) (by omega)
  have nw:0<2^n:=wcu (by omega)
  have hs:=Eo (a:=1) (n:=n) (by omega) (by rw[wbU];omega)
  rw[wbU]at hs
  have hm:jy n=2^n-1:=by rw[jy,wI h]
  rw[hm]
  generalize 2^n=p at hs hp nw
  have hw:IntKind.u64.wrap ((p:Int)-1)=((p-1:Nat):Int):=by rw[wrap_u64 (by omega) (by omega)];omega
  replace hs:shiftOp .shl .u64 1 (n:Int)=some (.int .u64 (p:Int)):=hs
  simp(disch:=omega)only[↓aa,ab,simprocAttr,sa,d,hs,hw]
def ny(a n:Int):Bool:=if decide (0≤a)then if decide (a<64)then if decide (1≤n)then decide (n≤64-a)else false else false else false
theorem PR{a n:Int}(h:ny a n=true):0≤a∧a<64∧1≤n∧n≤64-a:=by
 simp[ny]at h
 omega
theorem PS(H:Heap)(aj:H.lo≤H.next)(a n:Int):af E (aC 202) [.int .i64 a,.int .i64 n] H fun r H'=>r= .bool (ny a n)∧aq H H':=by
 refine aQ Tryz.f202 ?_
 simp only[Tryz.f202]
 cases x0:decide (0≤a)
 case false=>
  simp(disch:=omega)only[↓aa,ab,simprocAttr,sa,x0]
  exact⟨by simp only[ny,x0];rfl,aq.refl _⟩
 cases x1:decide (a<64)
 case false=>
  simp(disch:=omega)only[↓aa,ab,simprocAttr,sa,x0,x1]
  exact⟨by simp only[ny,x0,x1];rfl,aq.refl _⟩
 cases x2:decide (1≤n)
 case false=>
  simp(disch:=omega)only[↓aa,ab,simprocAttr,sa,x0,x1,x2]
  exact⟨by simp only[ny,x0,x1,x2];rfl,aq.refl _⟩
 have jR:0≤a:=by simpa using x0
 have nu:a<64:=by simpa using x1
 simp(disch:=omega)only[↓aa,ab,simprocAttr,sa,x0,x1,x2]
 exact⟨by simp only[ny,x0,x1,x2];rfl,aq.refl _⟩
theorem zcc{x i:Nat}(hx:x<2^64)(hi:64≤i):x.testBit i=false:=Nat.testBit_lt_two_pow (wq hx (wbg (by omega) hi))
theorem PT{a b:Nat}(ha:a<2^64)(hb:b<2^64)(i:Nat):(andNot a b).testBit i=(a.testBit i&& !b.testBit i):=by
 rw[andNot,show 2^64-1-b=2^64-(b+1) by omega,Nat.testBit_and,Nat.testBit_two_pow_sub_succ hb]
 by_cases h:i<64
 ·simp[h]
 ·rw[zcc ha (by omega)];simp
theorem zcd{x n:Nat}(hx:x<2^64)(hn:n<64):andNot x (2^n-1)=x/2^n*2^n:=by
 have hm:2^n-1<2^64:=by
  have:2^n≤2^64:=wbg (by omega) (by omega)
  have:0<2^n:=wcu (by omega)
  omega
 refine Nat.eq_of_testBit_eq fun i=>?_
 rw[PT hx hm,Nat.testBit_two_pow_sub_one,←Nat.shiftRight_eq_div_pow,←Nat.shiftLeft_eq,Nat.testBit_shiftLeft,Nat.testBit_shiftRight]
 by_cases h:i<n
 ·simp[h,show ¬n≤i by omega]
 ·simp[h,show n≤i by omega,show n+(i-n)=i by omega]
theorem PU{x n:Nat}(hx:x<2^64)(hn:n≤64):andNot x (jy n)=0↔x<2^n:=by
 unfold jy
 by_cases h:64≤n
 ·have:n=64:=by omega
  subst this
  rw[wF h]
  constructor
  ·intro _;exact hx
  ·intro _
   show x&&&(2^64-1-18446744073709551615)=0
   simp
 ·rw[wI h,zcd hx (by omega)]
  have hp:0<2^n:=wcu (by omega)
  constructor
  ·intro h0
   rcases Nat.mul_eq_zero.1 h0 with h1|h1
   ·exact(Nat.div_eq_zero_iff_lt hp).1 h1
   ·omega
  ·intro h1
   rw[Nat.div_eq_of_lt h1,wb2]
def cq(w a n:Nat):Nat:=w/2^a%2^n
theorem zce{x n:Nat}(hx:x<2^64)(hn:n≤64):x&&&jy n=x%2^n:=by
 unfold jy
 by_cases h:64≤n
 ·have:n=64:=by omega
  subst this
  rw[wF h,show(18446744073709551615:Nat)=2^64-1 by decide,wcr]
 ·rw[wI h,wcr]
theorem Bn(H:Heap)(aj:H.lo≤H.next)(w:Nat)(hw:w<2^64)(a n:Int):af E (aC 143) [.int .u64 (w:Int),.int .i64 a,.int .i64 n] H fun r H'=>r= .tuple #[.int .u64 ((if ny a n then cq w a.toNat n.toNat else 0:Nat):Int),.bool (ny a n)]∧aq H H':=by
 refine aQ Tryz.f143 ?_
 simp only[Tryz.f143]
 simp(disch:=omega)only[↓aa,ab,simprocAttr,sa]
 refine(PS H aj a n).mono ?_
 rintro r H2 ⟨rfl,s2⟩
 cases hp:ny a n
 case false=>
  simp(disch:=omega)only[↓aa,ab,simprocAttr,sa]
  first|exact⟨rfl,s2⟩|exact s2
 obtain⟨h1,h2,h3,h4⟩:=PR hp
 obtain⟨A,rfl⟩:∃ A:Nat,a=A:=⟨a.toNat,by omega⟩
 obtain⟨N,rfl⟩:∃ N:Nat,n=N:=⟨n.toNat,by omega⟩
 have hs:=Hq hw (n:=A) (by omega)
 have hd:w/2^A<2^64:=Nat.lt_of_le_of_lt (Nat.div_le_self _ _) hw
 have ha:=Hp hd (PQ N)
 rw[zce hd (by omega)]at ha
 have l2:=s2.lo
 simp only[waD,wah,cq]
 generalize w/2^A%2^N=res at ha
 generalize w/2^A=q at hs ha hd
 simp(disch:=omega)only[↓aa,ab,simprocAttr,sa]
 refine ic [(false,[],[]),(false,[],[]),(false,[],[]),(false,[],[]),(false,[],[]),(false,[],[]),(false,[],[]),(false,[],[])] kq ?_
 simp(disch:=omega)only[↓aa,ab,simprocAttr,sa,hs]
 refine(IP _ N).mono ?_
 rintro r H3 ⟨rfl,rfl⟩
 simp(disch:=omega)only[↓aa,ab,simprocAttr,sa,ha]
 exact s2
theorem IS{x N A:Nat}(hx:x<2^N)(h:N+A≤64):x*2^A<2^64:=by
 have h1:x*2^A<2^N*2^A:=Nat.mul_lt_mul_of_pos_right hx (wcu (by omega))
 rw[←Nat.pow_add]at h1
 exact wq h1 (wbg (by omega) h)
theorem PV{N:Nat}(h:N≤64):jy N<2^N:=by
 unfold jy
 by_cases h6:64≤N
 ·have:N=64:=by omega
  subst this
  rw[wF h6];decide
 ·rw[wI h6]
  have:0<2^N:=wcu (by omega)
  omega
def Er(w a n x:Nat):Nat:=andNot w (jy n*2^a)|||(x*2^a)
theorem zcf{a b:Nat}(h:a<2^64):andNot a b<2^64:=Nat.lt_of_le_of_lt Nat.and_le_left h
theorem zcg{w a n x:Nat}(hw:w<2^a)(hn:n+a≤64):Er w a n x=w+x*2^a:=by
 have kJ:w<2^64:=wq hw (wbg (by omega) (by omega))
 have e:andNot w (jy n*2^a)=w:=by
  refine Nat.eq_of_testBit_eq fun i=>?_
  rw[PT kJ (IS (PV (by omega)) hn),←Nat.shiftLeft_eq,Nat.testBit_shiftLeft]
  by_cases h:a≤i
  ·rw[Nat.testBit_lt_two_pow (wq hw (wbg (by omega) h))];rfl
  ·simp[h]
 rw[Er,e,wcG,Nat.add_comm]
 rw[Nat.two_pow_add_eq_or_of_lt hw,Nat.or_comm]
def sM(a n:Int)(x:Nat):Bool:=if ny a n then decide (x<2^n.toNat)else false
theorem zch(H:Heap)(aj:H.lo≤H.next)(w x:Nat)(hw:w<2^64)(hx:x<2^64)(a n:Int):af E (aC 205) [.int .u64 (w:Int),.int .i64 a,.int .i64 n,.int .u64 (x:Int)] H fun r H'=>r= .tuple #[.int .u64 ((if sM a n x then Er w a.toNat n.toNat x else 0:Nat):Int),.bool (sM a n x)]∧aq H H':=by
 refine aQ Tryz.f205 ?_
 simp only[Tryz.f205]
 simp(disch:=omega)only[↓aa,ab,simprocAttr,sa,Fb]
 refine(PS H aj a n).mono ?_
 rintro r H2 ⟨rfl,s2⟩
 cases hp:ny a n
 case false=>
  simp(disch:=omega)only[↓aa,ab,simprocAttr,sa]
  exact⟨by simp only[sM,hp];rfl,s2⟩
 obtain⟨h1,h2,h3,h4⟩:=PR hp
 obtain⟨A,rfl⟩:∃ A:Nat,a=A:=⟨a.toNat,by omega⟩
 obtain⟨N,rfl⟩:∃ N:Nat,n=N:=⟨n.toNat,by omega⟩
 have l2:=s2.lo
 have cx:sM (A:Int) (N:Int) x=decide (x<2^N):=by simp only[sM,hp,wah,waD]
 have oU:=PN hx (PQ N)
 simp(disch:=omega)only[↓aa,ab,simprocAttr,sa]
 refine(IP _ N).mono ?_
 rintro r H3 ⟨rfl,rfl⟩
 by_cases py:x<2^N
 rotate_left
 ·have d0:decide (((andNot x (jy N):Nat):Int)=0)=false:=by
   rw[wal]
   intro h0
   exact py ((PU hx (by omega)).1 (by omega))
  have cx:sM (A:Int) (N:Int) x=false:=by rw[cx];simpa using py
  simp(disch:=omega)only[↓aa,ab,simprocAttr,sa,oU,d0]
  exact⟨by rw[cx];rfl,s2⟩
 have d0:decide (((andNot x (jy N):Nat):Int)=0)=true:=by
  rw[waL,(PU hx (by omega)).2 py];rfl
 have cx:sM (A:Int) (N:Int) x=true:=by rw[cx];simpa using py
 have mZ:=IS (PV (show N≤64 by omega)) (show N+A≤64 by omega)
 have Bo:=IS py (show N+A≤64 by omega)
 have kz:=Eo (a:=jy N) (n:=A) (by omega) mZ
 have me:=Eo (a:=x) (n:=A) (by omega) Bo
 have jq:=PN hw mZ
 have Bq:=Ou (zcf (b:=jy N*2^A) hw) Bo
 rw[cx]
 simp only[wah,waD,Er]
 clear cx mZ Bo py
 generalize jy N*2^A=m at kz jq Bq
 generalize x*2^A=y at me Bq
 generalize andNot w m|||y=z at Bq
 generalize andNot w m=q at jq Bq
 simp(disch:=omega)only[↓aa,ab,simprocAttr,sa,oU,d0]
 refine ic [(false,[],[]),(false,[],[]),(false,[],[]),(false,[],[]),(false,[],[]),(false,[],[]),(false,[],[]),(false,[],[]),(false,[],[]),(false,[],[]),(false,[],[]),(false,[],[])] kq ?_
 simp(disch:=omega)only[↓aa,ab,simprocAttr,sa]
 refine(IP _ N).mono ?_
 rintro r H4 ⟨rfl,rfl⟩
 simp(disch:=omega)only[↓aa,ab,simprocAttr,sa,kz,me,jq,Bq]
 exact s2
end Go.AM
