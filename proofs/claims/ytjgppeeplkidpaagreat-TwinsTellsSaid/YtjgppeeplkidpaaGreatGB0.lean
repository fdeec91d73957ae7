/-
  Walks over letters of the functions that the law reaches; written small by a program of mine.
-/
import Derived.Test.YtjgppeeplkidpaaGreatAMc
import Derived.Test.YtjgppeeplkidpaaGreatTy
set_option linter.unusedVariables false
set_option linter.unusedSectionVars false
namespace Go.AM
attribute [local instance] fnMaps
open Go Go.Proofs
set_option linter.defProp false
def aa:=And.intro sh SS
def ab:=And.intro (And.intro (And.intro sx sl) (And.intro sb st)) (And.intro (And.intro @au @Yv) (And.intro @Yq (And.intro @wrap_i64 wG)))
theorem aj{P:Prop}(h:P:=by with_reducible repeat' first|assumption|apply Ko.refl|apply Ko.newRow|apply Ko.bU|apply Ko.setRow|omega|(simp only[az,aF,aD];omega)|(refine Ko.trans ?_ (by assumption))):P:=h
theorem ah{P:Prop}(h:P:=by first|omega|(simp(disch:=omega)only[az,aF,aD,aE,aB,aH, *];first|done|omega)):P:=h
theorem aJ{P:Prop}(h:P:=by first|trivial|omega|(simp(disch:=omega)only[↓aa,ab,simprocAttr,sa, *,Int.natCast_add,Int.natCast_one,wcg];done)|(simp(disch:=omega)only[↓aa,ab,simprocAttr,sa, *,wi,Value.int.injEq,wbT,wcl,Int.natCast_add,Int.natCast_one,wcg];omega)|exact aj):P:=h
theorem aA{H H':Heap}(k:Ko H H':=by exact aj)(l:H'.lo=H.lo:=by first|assumption|omega|simp(disch:=omega)only[↓aa,ab,simprocAttr,sa, *]):aq H H':=k.same l
theorem xW{P:Prop}(h:P:=by first|(with_reducible exact aA)|((with_reducible show _∧_);exact⟨by first|rfl|(simp[*]<;>omega),aA⟩)):P:=h
theorem bq{P:Prop}(h:P:=by first|exact aA|exact xW|omega):P:=h
theorem aV{E:Env}{g:FuncId}(fn:Func){c:Code}{args:List Value}{H:Heap}{K:Value→Heap→Prop}
  (h:wp .go E fn.ntmps c pf (Tr.of args) [] none H fun t ex T' br H'=>yH t ex (fun t=>br=[]∧optP t (resultsV E H' T' fn.results.toList) fun _ vs=>K (jA vs) H')) (ho:E.orc (.func (.func g) #[] #[]) args H=none:=by kernel_rfl) (h1:E.fn.get g=some fn:=by kernel_rfl) (h2:fn.body=some c:=by exact rfl) (h3:Nat.ble args.length fn.ntmps=true:=by exact rfl):af E (.func (.func g) #[] #[]) args H K:=Wv ho h1 h2 h3 h
theorem aw{E:Env}{sz:Nat}(id:Nat){T:Tr Value}{mk:List Nat}{ro:Option Nat}{H:Heap}{ops:Array Oper}{Q:Ex→Tr Value→List Nat→Heap→Prop}(ix:List Ix)(h:wpDraw .go E ops.toList pf sz ops.toList pf (ix.map (oi ops.toList)) T H fun _ T' H'=>Q .normal T' mk H')(hi:Ej ops=some ix:=by kernel_rfl):gi E sz (.region id ops true) T mk ro H Q:=gU ix hi h
theorem ao{E:Env}{f:Value}{args:List Value}(H0:Heap){H1:Heap}{K:Value→Heap→Prop}{v:Value}(hc:af E f args H1 fun r H'=>r=v∧aq H1 H')
  (k:∀ H2,Ko H0 H2→H2.lo=H1.lo→H1.next≤H2.next→(∀x,x<H1.next→H2.objs.get x=H1.objs.get x)→(∀x,x<H1.next→H2.grps.get x=H1.grps.get x)→K v H2) (hk:Ko H0 H1:=by exact aj):af E f args H1 K:=CS hk hc k
def vQ:List Nat→Tr Value→Tr Value→Prop
 |[],_,_=>True
 |k::l,T,T'=>T.get k=T'.get k∧vQ l T T'
theorem zan(T T':Tr Value):vQ [] T T'=True:=wE rfl rfl
theorem zao(k:Nat)(l:List Nat)(T T':Tr Value):vQ (k::l) T T'=(T.get k=T'.get k∧vQ l T T'):=wE rfl rfl
theorem HZ:∀ (l:List Nat) (T:Tr Value),vQ l T T
 |[],_=>trivial
 |_::l,T=>⟨rfl,HZ l T⟩
section
variable{E:Env}{sz:Nat}{c:Code}{T:Tr Value}{mk:List Nat}{ro:Option Nat}{H:Heap}{Q:Ex→Tr Value→List Nat→Heap→Prop}
theorem bP(H0:Heap)(U:List Nat)(h:∀ T1 H1,vQ U T1 T→Ko H0 H1→H1.next=H.next→H1.lo=H.lo→(∀r,H1.objs.get r=H.objs.get r)→gi E sz c T1 mk ro H1 Q)(k:Ko H0 H):gi E sz c T mk ro H Q:=h T H (HZ U T) k rfl rfl fun _=>rfl
theorem zap(H0 Od:Heap)(U:List Nat)(h:∀ T1 H1,vQ U T1 T→Ko H0 H1→Ko Od H1→H1.next=H.next→H1.lo=H.lo→(∀r,H1.objs.get r=H.objs.get r)→gi E sz c T1 mk ro H1 Q)(k:Ko H0 H)(k':Ko Od H):gi E sz c T mk ro H Q:=h T H (HZ U T) k k' rfl rfl fun _=>rfl
end
def sq:=And.intro (And.intro (And.intro zan zao) (And.intro @wcl (And.intro @dm of_nil))) (And.intro (And.intro N3 N4) (And.intro N5 (And.intro FR KS)))
abbrev Fx:Ix:=(false,[],[])
abbrev Tx:Ix:=(true,[],[])
set_option maxRecDepth 100000
set_option maxHeartbeats 1000000
set_option linter.unusedSimpArgs false
structure Span where
 ae:Int
 size:Int
 deriving DecidableEq
structure cj where
 eP:Int
 fp:Int
 aI:Int
 gV:Int
 deriving DecidableEq
def bh(x:Span):Value:= .agg #[.int .i64 x.ae,.int .i64 x.size]
def cm(c:cj):Value:= .agg #[.int .i64 c.eP,.int .i64 c.fp,.int .i64 c.aI,.int .i64 c.gV]
def bt(x:Span):Prop:=0≤x.ae∧x.ae≤1099511627776∧1≤x.size∧x.size≤1099511627776-x.ae
instance(x:Span):Decidable (bt x):=by unfold bt;infer_instance
def Span.stop(x:Span):Int:=x.ae+x.size
def lB(x y:Span):Prop:=bt x∧bt y∧y.ae≤x.ae∧x.stop≤y.stop
instance(x y:Span):Decidable (lB x y):=by unfold lB;infer_instance
def km(x y:Span):Prop:=bt x∧bt y∧x.ae<y.stop∧y.ae<x.stop
instance(x y:Span):Decidable (km x y):=by unfold km;infer_instance
theorem qN(H:Heap)(an:H.lo≤H.next)(x:Span):af E (aK 58) [bh x] H fun r H'=>r= .bool (decide (bt x))∧aq H H':=by
 refine aV Tryz.f58 ?_
 simp only[Tryz.f58]
 simp only[bh]
 repeat'(first|(apply ak<;>intro)|simp(disch:=omega)only[↓aa,ab,simprocAttr,sa, *])
 all_goals((with_reducible show _∧_);exact⟨eZ (by simp only[wT,wG,wbh,wa5,bt];first|omega|(simp[*]<;>omega)),aA⟩)
theorem qO(H:Heap)(an:H.lo≤H.next)(x:Span)(hx:bt x):af E (aK 255) [bh x] H fun r H'=>r= .int .i64 x.stop∧aq H H':=by
 unfold bt at hx
 refine aV Tryz.f255 ?_
 simp only[Tryz.f255]
 simp only[bh]
 simp(disch:=omega)only[↓aa,ab,simprocAttr,sa, *]
 exact⟨rfl,by exact aA⟩
theorem El(H:Heap)(an:H.lo≤H.next)(x y:Span):af E (aK 219) [bh x,bh y] H fun r H'=>r= .bool (decide (lB x y))∧aq H H':=by
 refine aV Tryz.f219 ?_
 simp only[Tryz.f219]
 simp only[bh]
 repeat'(first|(apply ak<;>intro)|refine aw 1 [Fx,Fx,Fx,Fx,Fx,Fx,Fx,Fx,Fx,Fx,Fx,Fx,Fx,Fx,Fx,Tx,Fx,Fx,Fx,Fx,Fx] ?_|((with_reducible show af _ _ _ _ _);(first|refine ao H (qN _ ah _) ?_|refine ao H (qO _ ah _ (by assumption)) ?_);intro H2 k2 l2 n2 g2 q2;try simp(disch:=omega)only[sm,sl]at l2 n2 g2 q2)|simp(disch:=omega)only[↓aa,ab,simprocAttr,sa, *])
 all_goals((with_reducible show _∧_);exact⟨eZ (by simp only[wT,wG,wbh,wa5,lB];first|omega|(simp[*]<;>omega)),aA⟩)
def cj.Ok(c:cj):Prop:=2≤c.eP∧c.eP≤32768∧1≤c.gV∧c.gV≤c.eP∧0≤c.fp∧c.fp≤32768∧1≤c.aI∧c.aI≤1024
instance(c:cj):Decidable c.Ok:=by unfold cj.Ok;infer_instance
theorem Em(H:Heap)(an:H.lo≤H.next)(c:cj):af E (aK 55) [cm c] H fun r H'=>r= .bool (decide c.Ok)∧aq H H':=by
 refine aV Tryz.f55 ?_
 simp only[Tryz.f55]
 simp only[cm]
 repeat'(first|(apply ak<;>intro)|simp(disch:=omega)only[↓aa,ab,simprocAttr,sa, *])
 all_goals((with_reducible show _∧_);exact⟨eZ (by simp only[wT,wG,wbh,wa5,cj.Ok];first|omega|(simp[*]<;>omega)),aA⟩)
def cj.words(c:cj):Int:=if c.Ok then 2*c.eP+c.fp else 0
theorem zaq(H:Heap)(an:H.lo≤H.next)(c:cj):af E (aK 56) [cm c] H fun r H'=>r= .int .i64 c.words∧aq H H':=by
 refine aV Tryz.f56 ?_
 simp only[Tryz.f56]
 simp only[cm]
 repeat'(first|(refine ak (fun hd=>?_) (fun hd=>?_)<;>try simp only[cj.Ok]at hd)|apply bw|((with_reducible show af _ _ _ _ _);refine ao H (Em _ ah _) ?_;intro H2 k2 l2 n2 g2 q2;try simp(disch:=omega)only[sm,sl]at l2 n2 g2 q2)|simp(disch:=omega)only[↓aa,ab,simprocAttr,sa, *])
 all_goals refine⟨?_,by exact aA⟩
 all_goals(simp only[cj.words];split<;>first|rfl|contradiction)
def cj.yP(c:cj):Span:=if c.fp=0 then⟨0,0⟩else⟨2*c.eP,c.fp⟩
def cj.dz(c:cj)(s:Bool):Span:=if c.Ok then(if s then⟨c.eP,c.eP⟩else⟨0,c.eP⟩)else⟨0,0⟩
def cj.jk(c:cj):Span:=if c.Ok then c.yP else⟨0,0⟩
def En(a b l:Span):Value:= .agg #[.int .i64 a.ae,.int .i64 a.size,.int .i64 b.ae,.int .i64 b.size,.int .i64 l.ae,.int .i64 l.size]
theorem Oe(H:Heap)(an:H.lo≤H.next)(c:cj)(s:Bool):af E (aK 101) [cm c,.bool s] H fun r H'=>r=En (c.dz s) (c.dz (!s)) c.jk∧aq H H':=by
 refine aV Tryz.f101 ?_
 simp only[Tryz.f101]
 simp only[cm]
 repeat'(first|(refine ak (fun hd=>?_) (fun hd=>?_)<;>try simp only[cj.Ok]at hd)|apply bw|refine cO (fun _=>?_) (fun _=>?_)|((with_reducible show af _ _ _ _ _);refine ao H (Em _ ah _) ?_;intro H2 k2 l2 n2 g2 q2;try simp(disch:=omega)only[sm,sl]at l2 n2 g2 q2)|simp(disch:=omega)only[↓aa,ab,simprocAttr,sa, *])
 all_goals(first|(with_reducible exact aA)|((with_reducible show _∧_);exact⟨by first|rfl|(simp[En,cj.dz,cj.jk,cj.yP,cj.Ok, *]<;>omega),aA⟩))
theorem Ia(H:Heap)(an:H.lo≤H.next)(c:cj)(s:Bool):af E (aK 163) [cm c,.bool s] H fun r H'=>r=bh (c.dz s)∧aq H H':=by
 refine aV Tryz.f163 ?_
 simp only[Tryz.f163]
 simp only[cm]
 repeat'(first|((with_reducible show af _ _ _ _ _);refine ao H (Oe _ ah _ _) ?_;intro H2 k2 l2 n2 g2 q2;try simp(disch:=omega)only[sm,sl]at l2 n2 g2 q2)|simp(disch:=omega)only[↓aa,ab,simprocAttr,sa,En, *])
 all_goals(first|(with_reducible exact aA)|((with_reducible show _∧_);exact⟨by first|rfl|(simp[bh, *]<;>omega),aA⟩))
theorem Of(H:Heap)(an:H.lo≤H.next)(c:cj):af E (aK 57) [cm c] H fun r H'=>r=bh c.jk∧aq H H':=by
 refine aV Tryz.f57 ?_
 simp only[Tryz.f57]
 simp only[cm]
 repeat'(first|((with_reducible show af _ _ _ _ _);refine ao H (Oe _ ah _ _) ?_;intro H2 k2 l2 n2 g2 q2;try simp(disch:=omega)only[sm,sl]at l2 n2 g2 q2)|simp(disch:=omega)only[↓aa,ab,simprocAttr,sa,En, *])
 all_goals(first|(with_reducible exact aA)|((with_reducible show _∧_);exact⟨by first|rfl|(simp[bh, *]<;>omega),aA⟩))
def cj.Small(c:cj)(n:Int):Prop:=c.Ok∧1≤n∧n≤c.gV
instance(c:cj)(n:Int):Decidable (c.Small n):=by unfold cj.Small;infer_instance
theorem Eo(H:Heap)(an:H.lo≤H.next)(c:cj)(n:Int):af E (aK 241) [cm c,.int .i64 n] H fun r H'=>r= .bool (decide (c.Small n))∧aq H H':=by
 refine aV Tryz.f241 ?_
 simp only[Tryz.f241]
 simp only[cm]
 repeat'(first|(apply ak<;>intro)|((with_reducible show af _ _ _ _ _);refine ao H (Em _ ah _) ?_;intro H2 k2 l2 n2 g2 q2;try simp(disch:=omega)only[sm,sl]at l2 n2 g2 q2)|simp(disch:=omega)only[↓aa,ab,simprocAttr,sa, *])
 all_goals((with_reducible show _∧_);exact⟨eZ (by simp only[wT,wG,wbh,wa5,cj.Small];first|omega|(simp[*]<;>omega)),aA⟩)
def vS(a b:Int):Int:=if a<b then -1 else if b<a then 1 else 0
theorem zaB(H:Heap)(an:H.lo≤H.next)(a:Int):af E (aK 214) [.int .i64 a] H fun r H'=>r= .bool false∧aq H H':=by
 refine aV Tryz.f214 ?_
 simp only[Tryz.f214]
 simp(disch:=omega)only[↓aa,ab,simprocAttr,sa, *]
 exact xW
theorem zaC(H:Heap)(an:H.lo≤H.next)(a b:Int):af E (aK 325) [.int .i64 a,.int .i64 b] H fun r H'=>r= .int .i64 (vS a b)∧aq H H':=by
 refine aV Tryz.f325 ?_
 simp only[Tryz.f325]
 repeat'(first|(apply ak<;>intro)|((with_reducible show af _ _ _ _ _);refine ao H (zaB _ ah _) ?_;intro H2 k2 l2 n2 g2 q2;try simp(disch:=omega)only[sm,sl]at l2 n2 g2 q2)|simp(disch:=omega)only[↓aa,ab,simprocAttr,sa, *])
 all_goals(first|(with_reducible exact aA)|((with_reducible show _∧_);exact⟨by first|rfl|(simp[vS, *]<;>omega),aA⟩))
def yT(a b:Int):Int:=if a=0 then b else a
theorem zaD(H:Heap)(an:H.lo≤H.next)(r0:Nat)(a b:Int)(hr:r0<H.next)(aC:H.objs.get r0=some (.row [.int .i64 a,.int .i64 b] none true)):af E (aK 324) [.slice (some ⟨r0,0,none⟩) 2 2] H fun r H'=>r= .int .i64 (yT a b)∧aq H H':=by
 refine aV Tryz.f324 ?_
 simp only[Tryz.f324]
 simp(disch:=omega)only[↓aa,ab,simprocAttr,sa, *]
 refine bP H [3,6,7,8] (fun T1 H1 u1 k1 n1 l1 g1=>?_) aj
 try simp(disch:=omega)only[sm,sl]at n1 l1 g1
 simp only[sq,simprocAttr]at u1
 refine bL kq (fun nn T X=>∃ i:Nat,nn=2-i∧(T.get 8=some (.int .i64 i))∧(T.get 3=T1.get 3∧T.get 6=T1.get 6∧T.get 7=T1.get 7)∧Ko H1 X∧X.lo=H1.lo∧(i≤2∧(0<i→a=0)∧(1<i→b=0))) ?_ ?_
 ·refine⟨_,0,rfl,?_,?_,Ko.refl _,rfl,⟨by omega,by omega,by omega⟩⟩<;>exact aJ
 rintro nn dA X1 ⟨i,rfl,m1,w1,kx1,eQ,⟨hi,ha,hb⟩⟩ Qs hQ aG ai
 have bz:=k1.trans kx1;have dZ:=kx1.ag;have ed:=kx1.objs
 have e1:=bz.objs r0 hr
 match i,hi with
 |0,_=>
  have a1:at? ((0:Nat):Int) 2=some 0:=rfl
  repeat'(first|(apply ak<;>intro)|apply bw|((with_reducible show Qs _ _ _ _ _);refine aG _ _ _ ?_)|simp(disch:=omega)only[↓aa,ab,simprocAttr,sa, *,wcg])
  all_goals first
   |(refine hQ _ _ _ ?_ ⟨1,rfl,?_,?_,?_,?_,⟨by omega,fun _=>by assumption,by omega⟩⟩<;>exact aJ)
   |(first|(with_reducible exact aA)|((with_reducible show _∧_);exact⟨by first|rfl|(simp[yT, *]<;>omega),aA⟩))
   |omega
 |1,_=>
  have a1:at? ((1:Nat):Int) 2=some 1:=rfl
  repeat'(first|(apply ak<;>intro)|apply bw|((with_reducible show Qs _ _ _ _ _);refine aG _ _ _ ?_)|simp(disch:=omega)only[↓aa,ab,simprocAttr,sa, *,Int.natCast_one])
  all_goals first
   |(refine hQ _ _ _ ?_ ⟨2,rfl,?_,?_,?_,?_,⟨by omega,by omega,fun _=>by assumption⟩⟩<;>exact aJ)
   |(first|(with_reducible exact aA)|((with_reducible show _∧_);exact⟨by first|rfl|(simp[yT, *]<;>omega),aA⟩))
   |omega
 |2,_=>
  have ha:=ha (by omega)
  have hb:=hb (by omega)
  repeat'(first|((with_reducible show Qs _ _ _ _ _);refine ai _ _ _ _ ?_)|simp(disch:=omega)only[↓aa,ab,simprocAttr,sa, *])
  all_goals first
   |(first|(with_reducible exact aA)|((with_reducible show _∧_);exact⟨by first|rfl|(simp[yT, *]<;>omega),aA⟩))
   |omega
def vT(x y:Span):Int:=yT (vS x.ae y.ae) (vS x.size y.size)
theorem Bt(H:Heap)(an:H.lo≤H.next)(x y:Span):af E (aK 313) [bh x,bh y] H fun r H'=>r= .int .i64 (vT x y)∧aq H H':=by
 refine aV Tryz.f313 ?_
 simp only[Tryz.f313]
 simp only[bh]
 repeat'(first|refine aw 1 [Fx,Fx,Fx,Fx,Tx,Fx,Fx,Fx,Fx,Fx,Fx,Fx,Fx] ?_|((with_reducible show af _ _ _ _ _);(first|refine ao H (zaC _ ah _ _) ?_|refine ao H (zaD _ ah _ (vS x.ae y.ae) (vS x.size y.size) ah (by simp(disch:=omega)only[ay,aN,az,aF,aE,aB,aM,aO,aQ,aP,aL,aD,aH,au,sl])) ?_);intro H2 k2 l2 n2 g2 q2;try simp(disch:=omega)only[sm,sl]at l2 n2 g2 q2)|simp(disch:=omega)only[↓aa,ab,simprocAttr,sa,cw,iG,dW,wL,wat,wY,waA,waV,waZ, *])
 all_goals(first|(with_reducible exact aA)|((with_reducible show _∧_);exact⟨by first|rfl|(simp[vT, *]<;>omega),aA⟩))
def sr(l:List Span):Prop:=∀ (i j:Nat) (x y:Span),i<j→l[i]? =some x→l[j]? =some y→x.ae<y.ae
theorem Ov{x y:Span}(h:x.ae<y.ae):vT y x=1∧vT x y= -1:=by
 unfold vT yT vS
 have h1:¬ y.ae<x.ae:=by omega
 simp[h,h1]
def bD:Heap→List Value→Span→Prop:=fun _ part x=>part=[.int .i64 x.ae,.int .i64 x.size]
theorem bD.mono:oj bD:=fun _ _ _ _ _ h=>h
theorem Ow(H:Heap)(an:H.lo≤H.next)(v:Value)(l:List Span)(hv:SL bD 2 H v l)(hr:sr l)(a b:Nat)(rS:a≤b)(hb:b≤l.length)(hl:l.length≤100000):af E (aK 328) [v,.int .i64 a,.int .i64 b,aK 313] H fun r H'=>r= .tuple #[]∧aq H H':=by
 obtain⟨ad,ca,rfl,⟨_,ft⟩,bs⟩:=hv
 refine aV Tryz.f328 ?_
 simp only[Tryz.f328]
 simp(disch:=omega)only[↓aa,ab,simprocAttr,sa, *]
 refine bP H [0,1,2,3,8] (fun T1 H1 u1 k1 n1 l1 g1=>?_) aj
 try simp(disch:=omega)only[sm,sl]at n1 l1 g1
 simp only[sq,simprocAttr]at u1
 refine bL kq (fun nn T X=>∃ i:Nat,nn=b-i∧(T.get 8=some (.int .i64 i))∧(T.get 0=T1.get 0∧T.get 1=T1.get 1∧T.get 2=T1.get 2∧T.get 3=T1.get 3)∧True∧True∧(a<i∧i≤max b (a+1)∧Ko H X∧X.lo=H.lo)) ?_ ?_
 ·refine⟨_,a+1,rfl,?_,?_,trivial,trivial,⟨by omega,by omega,by assumption,by assumption⟩⟩<;>exact aJ
 rintro nn dA X1 ⟨i,rfl,m1,w1,_,_,⟨hi,nW,bz,lX1⟩⟩ Qs hQ aG ai
 have nX1:=bz.ag;have gX1:=bz.objs
 by_cases hlt:i<b
 ·repeat'(first|(apply ak<;>intro)|((with_reducible show Qs _ _ _ _ _);refine ai _ _ _ _ ?_)|simp(disch:=omega)only[↓aa,ab,simprocAttr,sa, *])
  all_goals try omega
  have Et:=hQ
  refine bP H [0,1,2,3,8,9] (fun T2 H2 u2 k2 n2 l2 g2=>?_) aj
  try simp(disch:=omega)only[sm,sl]at n2 l2 g2
  simp only[sq,simprocAttr]at u2
  refine bL kq (fun nn T X=>nn=0∧(T.get 9=some (.int .i64 i))∧(T.get 0=T2.get 0∧T.get 1=T2.get 1∧T.get 2=T2.get 2∧T.get 3=T2.get 3∧T.get 8=T2.get 8)∧Ko H2 X∧X.lo=H2.lo∧(True)) ?_ ?_
  ·refine⟨_,rfl,?_,?_,Ko.refl _,rfl,trivial⟩<;>exact aJ
  rintro nn vU X2 ⟨rfl,m2,w2,pL,Ox,_⟩ Qs hQ aG ai
  have gk:=k2.trans pL;have yU:=pL.ag;have Oy:=pL.objs
  obtain⟨r,o,cells,gg,tt,part,rfl,gS,aC,aR,rfl⟩:=bs i l[i] (by simp)
  obtain⟨r',o',cells',Ie,Ig,Bh,e,cq,ky,ss,rfl⟩:=bs (i-1) l[i-1] (by simp)
  cases e
  rw[aC]at ky
  cases ky
  have hby:=(Ov (hr (i-1) i l[i-1] l[i] (by omega) (by simp) (by simp))).1
  have a1:=bn (show i<l.length by omega)
  have a2:at? ((i:Int)-1) l.length=some (i-1):=by rw[show(i:Int)-1=((i-1:Nat):Int) by omega];exact bn (by omega)
  have e1:=gk.objs r gS
  have a3:((i:Int)-1).toNat=i-1:=by omega
  repeat'(first|(apply ak<;>intro)|refine aw 4 [Fx,Fx,Fx,Fx,Fx,Fx,Fx,Fx,Fx,Fx,Fx,Fx,Fx,Fx,Fx,Fx,Fx] ?_|((with_reducible show af _ _ _ _ _);refine ao H (Bt _ ah _ _) ?_;intro H2 k2 l2 n2 g2 q2;try simp(disch:=omega)only[sm,sl]at l2 n2 g2 q2)|((with_reducible show Qs _ _ _ _ _);refine ai _ _ _ _ ?_)|simp(disch:=omega)only[↓aa,ab,simprocAttr,sa, *])
  all_goals try omega
  have hQ:=Et
  refine hQ _ _ _ ?_ ⟨i+1,rfl,?_,?_,trivial,trivial,⟨by omega,by omega,?_,?_⟩⟩<;>exact aJ
 ·repeat'(first|(apply ak<;>intro)|((with_reducible show Qs _ _ _ _ _);refine ai _ _ _ _ ?_)|simp(disch:=omega)only[↓aa,ab,simprocAttr,sa, *])
  ·omega
  exact xW
theorem y8{a:Nat}(h:a<2^64):(BitVec.ofInt 64 (a:Int)).toNat=a:=by
 rw[BitVec.ofInt_natCast,BitVec.toNat_ofNat,Nat.mod_eq_of_lt h]
theorem Oi{a b:Nat}(ha:a<2^64)(hb:b<2^64):intOp .and .u64 (a:Int) (b:Int)=some (.int .u64 ((a&&&b:Nat):Int)):=by
 have e:intOp .and .u64 (a:Int) (b:Int)=gC .u64 (((BitVec.ofInt 64 (a:Int)&&&BitVec.ofInt 64 (b:Int)).toNat:Nat):Int):=rfl
 rw[e,BitVec.toNat_and,y8 ha,y8 hb,qM,wrap_u64 (by omega)]
 have:a&&&b≤a:=Nat.and_le_left
 have Iz:(2:Nat)^64=18446744073709551616:=by decide
 omega
theorem Oh{a b:Nat}(ha:a<2^64)(hb:b<2^64):intOp .or .u64 (a:Int) (b:Int)=some (.int .u64 ((a|||b:Nat):Int)):=by
 have e:intOp .or .u64 (a:Int) (b:Int)=gC .u64 (((BitVec.ofInt 64 (a:Int)|||BitVec.ofInt 64 (b:Int)).toNat:Nat):Int):=rfl
 rw[e,BitVec.toNat_or,y8 ha,y8 hb,qM,wrap_u64 (by omega)]
 have:a|||b<2^64:=Nat.or_lt_two_pow ha hb
 have Iz:(2:Nat)^64=18446744073709551616:=by decide
 omega
def andNot(a b:Nat):Nat:=a&&&(2^64-1-b)
theorem OY{a b:Nat}(ha:a<2^64)(hb:b<2^64):intOp .andNot .u64 (a:Int) (b:Int)=some (.int .u64 ((andNot a b:Nat):Int)):=by
 have e:intOp .andNot .u64 (a:Int) (b:Int)=gC .u64 (((BitVec.ofInt 64 (a:Int)&&& ~~~BitVec.ofInt 64 (b:Int)).toNat:Nat):Int):=rfl
 rw[e,BitVec.toNat_and,BitVec.toNat_not,y8 ha,y8 hb,qM,wrap_u64 (by omega)]
 ·rfl
 ·have:a&&&(2^64-1-b)≤a:=Nat.and_le_left
  have Iz:(2:Nat)^64=18446744073709551616:=by decide
  omega
theorem OZ:IntKind.u64.bits=64:=rfl
theorem Oj{a n:Nat}(ha:a<2^64)(hn:n<64):shiftOp .shr .u64 (a:Int) (n:Int)=some (.int .u64 ((a/2^n:Nat):Int)):=by
 rw[shift_shr _ _ _ (by omega),OZ,waD,waS (by omega)]
 congr 2
 rw[wcw _ (Int.pow_nonneg (by decide))]
 norm_cast
theorem IB{a n:Nat}(hn:n<64)(h:a*2^n<2^64):shiftOp .shl .u64 (a:Int) (n:Int)=some (.int .u64 ((a*2^n:Nat):Int)):=by
 rw[shift_shl _ _ _ (by omega),OZ,waD,waS (by omega)]
 have e:(a:Int)*2^n=((a*2^n:Nat):Int):=by norm_cast
 have Iz:(2:Nat)^64=18446744073709551616:=by decide
 rw[e,wrap_u64 (by omega) (by omega)]
def jn(n:Nat):Nat:=if 64≤n then 18446744073709551615 else 2^n-1
theorem O0(n:Nat):jn n<2^64:=by
 unfold jn
 split
 ·decide
 ·have:2^n≤2^64:=wbg (by omega) (by omega)
  have:0<2^n:=wcu (by omega)
  omega
theorem IC(H:Heap)(n:Nat):af E (aK 203) [.int .i64 (n:Int)] H fun r H'=>r= .int .u64 (jn n:Nat)∧H'=H:=by
 refine aV Tryz.f203 ?_
 simp only[Tryz.f203]
 by_cases h:64≤n
 ·have d:decide ((64:Int)≤(n:Int))=true:=by rw[waL];omega
  simp(disch:=omega)only[↓aa,ab,simprocAttr,sa,d]
  rw[jn,wF h];rfl
 ·have d:decide ((64:Int)≤(n:Int))=false:=by rw[wal];omega
  have hp:2^n≤2^63:=wbg (by omega) (by omega)
  have nk:0<2^n:=wcu (by omega)
  have hs:=IB (a:=1) (n:=n) (by omega) (by rw[wbU];omega)
  rw[wbU]at hs
  have hm:jn n=2^n-1:=by rw[jn,wI h]
  rw[hm]
  generalize 2^n=p at hs hp nk
  have hw:IntKind.u64.wrap ((p:Int)-1)=((p-1:Nat):Int):=by rw[wrap_u64 (by omega) (by omega)];omega
  replace hs:shiftOp .shl .u64 1 (n:Int)=some (.int .u64 (p:Int)):=hs
  simp(disch:=omega)only[↓aa,ab,simprocAttr,sa,d,hs,hw]
def nm(a n:Int):Bool:=if decide (0≤a)then if decide (a<64)then if decide (1≤n)then decide (n≤64-a)else false else false else false
theorem O1{a n:Int}(h:nm a n=true):0≤a∧a<64∧1≤n∧n≤64-a:=by
 simp[nm]at h
 omega
theorem O2(H:Heap)(an:H.lo≤H.next)(a n:Int):af E (aK 202) [.int .i64 a,.int .i64 n] H fun r H'=>r= .bool (nm a n)∧aq H H':=by
 refine aV Tryz.f202 ?_
 simp only[Tryz.f202]
 cases x0:decide (0≤a)
 case false=>
  simp(disch:=omega)only[↓aa,ab,simprocAttr,sa,x0]
  exact⟨by simp only[nm,x0];rfl,aq.refl _⟩
 cases x1:decide (a<64)
 case false=>
  simp(disch:=omega)only[↓aa,ab,simprocAttr,sa,x0,x1]
  exact⟨by simp only[nm,x0,x1];rfl,aq.refl _⟩
 cases x2:decide (1≤n)
 case false=>
  simp(disch:=omega)only[↓aa,ab,simprocAttr,sa,x0,x1,x2]
  exact⟨by simp only[nm,x0,x1,x2];rfl,aq.refl _⟩
 have kB:0≤a:=by simpa using x0
 have ou:a<64:=by simpa using x1
 simp(disch:=omega)only[↓aa,ab,simprocAttr,sa,x0,x1,x2]
 exact⟨by simp only[nm,x0,x1,x2];rfl,aq.refl _⟩
theorem zbA{x i:Nat}(hx:x<2^64)(hi:64≤i):x.testBit i=false:=Nat.testBit_lt_two_pow (wq hx (wbg (by omega) hi))
theorem O3{a b:Nat}(ha:a<2^64)(hb:b<2^64)(i:Nat):(andNot a b).testBit i=(a.testBit i&& !b.testBit i):=by
 rw[andNot,show 2^64-1-b=2^64-(b+1) by omega,Nat.testBit_and,Nat.testBit_two_pow_sub_succ hb]
 by_cases h:i<64
 ·simp[h]
 ·rw[zbA ha (by omega)];simp
theorem zbB{x n:Nat}(hx:x<2^64)(hn:n<64):andNot x (2^n-1)=x/2^n*2^n:=by
 have hm:2^n-1<2^64:=by
  have:2^n≤2^64:=wbg (by omega) (by omega)
  have:0<2^n:=wcu (by omega)
  omega
 refine Nat.eq_of_testBit_eq fun i=>?_
 rw[O3 hx hm,Nat.testBit_two_pow_sub_one,←Nat.shiftRight_eq_div_pow,←Nat.shiftLeft_eq,Nat.testBit_shiftLeft,Nat.testBit_shiftRight]
 by_cases h:i<n
 ·simp[h,show ¬n≤i by omega]
 ·simp[h,show n≤i by omega,show n+(i-n)=i by omega]
theorem O4{x n:Nat}(hx:x<2^64)(hn:n≤64):andNot x (jn n)=0↔x<2^n:=by
 unfold jn
 by_cases h:64≤n
 ·have:n=64:=by omega
  subst this
  rw[wF h]
  constructor
  ·intro _;exact hx
  ·intro _
   show x&&&(2^64-1-18446744073709551615)=0
   simp
 ·rw[wI h,zbB hx (by omega)]
  have hp:0<2^n:=wcu (by omega)
  constructor
  ·intro h0
   rcases Nat.mul_eq_zero.1 h0 with h1|h1
   ·exact(Nat.div_eq_zero_iff_lt hp).1 h1
   ·omega
  ·intro h1
   rw[Nat.div_eq_of_lt h1,wb2]
def cB(w a n:Nat):Nat:=w/2^a%2^n
theorem zbC{x n:Nat}(hx:x<2^64)(hn:n≤64):x&&&jn n=x%2^n:=by
 unfold jn
 by_cases h:64≤n
 ·have:n=64:=by omega
  subst this
  rw[wF h,show(18446744073709551615:Nat)=2^64-1 by decide,wcr]
 ·rw[wI h,wcr]
theorem BF(H:Heap)(an:H.lo≤H.next)(w:Nat)(hw:w<2^64)(a n:Int):af E (aK 143) [.int .u64 (w:Int),.int .i64 a,.int .i64 n] H fun r H'=>r= .tuple #[.int .u64 ((if nm a n then cB w a.toNat n.toNat else 0:Nat):Int),.bool (nm a n)]∧aq H H':=by
 refine aV Tryz.f143 ?_
 simp only[Tryz.f143]
 simp(disch:=omega)only[↓aa,ab,simprocAttr,sa]
 refine(O2 H an a n).mono ?_
 rintro r H2 ⟨rfl,s2⟩
 cases hp:nm a n
 case false=>
  simp(disch:=omega)only[↓aa,ab,simprocAttr,sa]
  first|exact⟨rfl,s2⟩|exact s2
 obtain⟨h1,h2,h3,h4⟩:=O1 hp
 obtain⟨A,rfl⟩:∃ A:Nat,a=A:=⟨a.toNat,by omega⟩
 obtain⟨N,rfl⟩:∃ N:Nat,n=N:=⟨n.toNat,by omega⟩
 have hs:=Oj hw (n:=A) (by omega)
 have hd:w/2^A<2^64:=Nat.lt_of_le_of_lt (Nat.div_le_self _ _) hw
 have ha:=Oi hd (O0 N)
 rw[zbC hd (by omega)]at ha
 have l2:=s2.lo
 simp only[waD,wah,cB]
 generalize w/2^A%2^N=sG at ha
 generalize w/2^A=q at hs ha hd
 simp(disch:=omega)only[↓aa,ab,simprocAttr,sa]
 refine gU [(false,[],[]),(false,[],[]),(false,[],[]),(false,[],[]),(false,[],[]),(false,[],[]),(false,[],[]),(false,[],[])] kq ?_
 simp(disch:=omega)only[↓aa,ab,simprocAttr,sa,hs]
 refine(IC _ N).mono ?_
 rintro r H3 ⟨rfl,rfl⟩
 simp(disch:=omega)only[↓aa,ab,simprocAttr,sa,ha]
 exact s2
theorem ID{x N A:Nat}(hx:x<2^N)(h:N+A≤64):x*2^A<2^64:=by
 have h1:x*2^A<2^N*2^A:=Nat.mul_lt_mul_of_pos_right hx (wcu (by omega))
 rw[←Nat.pow_add]at h1
 exact wq h1 (wbg (by omega) h)
theorem O5{N:Nat}(h:N≤64):jn N<2^N:=by
 unfold jn
 by_cases h6:64≤N
 ·have:N=64:=by omega
  subst this
  rw[wF h6];decide
 ·rw[wI h6]
  have:0<2^N:=wcu (by omega)
  omega
def EJ(w a n x:Nat):Nat:=andNot w (jn n*2^a)|||(x*2^a)
theorem zbD{a b:Nat}(h:a<2^64):andNot a b<2^64:=Nat.lt_of_le_of_lt Nat.and_le_left h
theorem zbE{w a n x:Nat}(hw:w<2^a)(hn:n+a≤64):EJ w a n x=w+x*2^a:=by
 have kD:w<2^64:=wq hw (wbg (by omega) (by omega))
 have e:andNot w (jn n*2^a)=w:=by
  refine Nat.eq_of_testBit_eq fun i=>?_
  rw[O3 kD (ID (O5 (by omega)) hn),←Nat.shiftLeft_eq,Nat.testBit_shiftLeft]
  by_cases h:a≤i
  ·rw[Nat.testBit_lt_two_pow (wq hw (wbg (by omega) h))];rfl
  ·simp[h]
 rw[EJ,e,wcG,Nat.add_comm]
 rw[Nat.two_pow_add_eq_or_of_lt hw,Nat.or_comm]
def sJ(a n:Int)(x:Nat):Bool:=if nm a n then decide (x<2^n.toNat)else false
theorem zbF(H:Heap)(an:H.lo≤H.next)(w x:Nat)(hw:w<2^64)(hx:x<2^64)(a n:Int):af E (aK 205) [.int .u64 (w:Int),.int .i64 a,.int .i64 n,.int .u64 (x:Int)] H fun r H'=>r= .tuple #[.int .u64 ((if sJ a n x then EJ w a.toNat n.toNat x else 0:Nat):Int),.bool (sJ a n x)]∧aq H H':=by
 refine aV Tryz.f205 ?_
 simp only[Tryz.f205]
 simp(disch:=omega)only[↓aa,ab,simprocAttr,sa,FR]
 refine(O2 H an a n).mono ?_
 rintro r H2 ⟨rfl,s2⟩
 cases hp:nm a n
 case false=>
  simp(disch:=omega)only[↓aa,ab,simprocAttr,sa]
  exact⟨by simp only[sJ,hp];rfl,s2⟩
 obtain⟨h1,h2,h3,h4⟩:=O1 hp
 obtain⟨A,rfl⟩:∃ A:Nat,a=A:=⟨a.toNat,by omega⟩
 obtain⟨N,rfl⟩:∃ N:Nat,n=N:=⟨n.toNat,by omega⟩
 have l2:=s2.lo
 have cd:sJ (A:Int) (N:Int) x=decide (x<2^N):=by simp only[sJ,hp,wah,waD]
 have oZ:=OY hx (O0 N)
 simp(disch:=omega)only[↓aa,ab,simprocAttr,sa]
 refine(IC _ N).mono ?_
 rintro r H3 ⟨rfl,rfl⟩
 by_cases nU:x<2^N
 rotate_left
 ·have d0:decide (((andNot x (jn N):Nat):Int)=0)=false:=by
   rw[wal]
   intro h0
   exact nU ((O4 hx (by omega)).1 (by omega))
  have cd:sJ (A:Int) (N:Int) x=false:=by rw[cd];simpa using nU
  simp(disch:=omega)only[↓aa,ab,simprocAttr,sa,oZ,d0]
  exact⟨by rw[cd];rfl,s2⟩
 have d0:decide (((andNot x (jn N):Nat):Int)=0)=true:=by
  rw[waL,(O4 hx (by omega)).2 nU];rfl
 have cd:sJ (A:Int) (N:Int) x=true:=by rw[cd];simpa using nU
 have qL:=ID (O5 (show N≤64 by omega)) (show N+A≤64 by omega)
 have BG:=ID nU (show N+A≤64 by omega)
 have pB:=IB (a:=jn N) (n:=A) (by omega) qL
 have hs2:=IB (a:=x) (n:=A) (by omega) BG
 have jJ:=OY hw qL
 have BH:=Oh (zbD (b:=jn N*2^A) hw) BG
 rw[cd]
 simp only[wah,waD,EJ]
 clear cd qL BG nU
 generalize jn N*2^A=m at pB jJ BH
 generalize x*2^A=y at hs2 BH
 generalize andNot w m|||y=z at BH
 generalize andNot w m=q at jJ BH
 simp(disch:=omega)only[↓aa,ab,simprocAttr,sa,oZ,d0]
 refine gU [(false,[],[]),(false,[],[]),(false,[],[]),(false,[],[]),(false,[],[]),(false,[],[]),(false,[],[]),(false,[],[]),(false,[],[]),(false,[],[]),(false,[],[]),(false,[],[])] kq ?_
 simp(disch:=omega)only[↓aa,ab,simprocAttr,sa]
 refine(IC _ N).mono ?_
 rintro r H4 ⟨rfl,rfl⟩
 simp(disch:=omega)only[↓aa,ab,simprocAttr,sa,pB,hs2,jJ,BH]
 exact s2
structure Hd where
 kind:Int
 fields:Int
 bC:Int
 mark:Bool
 fu:Int
def O6(h:Hd):List Value:=[.int .i64 h.kind,.int .i64 h.fields,.int .i64 h.bC,.bool h.mark,.int .i64 h.fu]
def bO(h:Hd):Value:= .agg #[.int .i64 h.kind,.int .i64 h.fields,.int .i64 h.bC,.bool h.mark,.int .i64 h.fu]
def il(h:Hd):Int:=if h.mark then 1 else 0
def dp(h:Hd):Nat→Int
 |0=>il h
 |1=>h.kind
 |2=>h.fields
 |3=>h.bC
 |_=>h.fu
def pO:Nat→Nat
 |0=>2
 |1=>3
 |2=>8
 |3=>24
 |_=>40
def jO:Nat→Int
 |0=>1
 |1=>31
 |2=>4096
 |3=>4096
 |_=>1048576
def wH(h:Hd):Nat→Nat
 |0=>3
 |i+1=>wH h i+(dp h i).toNat*2^pO i
def fY(h:Hd)(i:Nat):Bool:=if decide (dp h i<0)then false else !decide (jO i<dp h i)
def gW(h:Hd):Bool:=(List.range 5).all (fY h)
theorem nq{h:Hd}{i:Nat}(hk:fY h i=true):0≤dp h i∧dp h i≤jO i:=by
 simp[fY]at hk
 omega
theorem BI{h:Hd}:∀ {i:Nat},i≤4→(∀j,j<i→fY h j=true)→wH h i<2^pO i
 |0,_,_=>by show 3<2^2;decide
 |1,_,hj=>by
  have h0:=nq (hj 0 (by omega))
  simp only[wH,dp,jO,pO]at h0⊢
  omega
 |2,_,hj=>by
  have h0:=nq (hj 0 (by omega))
  have h1:=nq (hj 1 (by omega))
  simp only[wH,dp,jO,pO]at h0 h1⊢
  omega
 |3,_,hj=>by
  have h0:=nq (hj 0 (by omega))
  have h1:=nq (hj 1 (by omega))
  have h2:=nq (hj 2 (by omega))
  simp only[wH,dp,jO,pO]at h0 h1 h2⊢
  omega
 |4,_,hj=>by
  have h0:=nq (hj 0 (by omega))
  have h1:=nq (hj 1 (by omega))
  have h2:=nq (hj 2 (by omega))
  have h3:=nq (hj 3 (by omega))
  simp only[wH,dp,jO,pO]at h0 h1 h2 h3⊢
  omega
theorem BJ(H:Heap)(an:H.lo≤H.next)(w x A N:Nat)(hw:w<2^A)(hx:x<2^N)(hA:A<64)(hN:1≤N)(hNA:N+A≤64):af E (aK 205) [.int .u64 (w:Int),.int .i64 (A:Int),.int .i64 (N:Int),.int .u64 (x:Int)] H fun r H'=>r= .tuple #[.int .u64 ((w+x*2^A:Nat):Int),.bool true]∧aq H H':=by
 have kD:w<2^64:=wq hw (wbg (by omega) (by omega))
 have zbG:x<2^64:=wq hx (wbg (by omega) (by omega))
 refine(zbF H an w x kD zbG A N).mono ?_
 rintro r H2 ⟨rfl,s2⟩
 have hp:nm (A:Int) (N:Int)=true:=by
  simp[nm];omega
 have cd:sJ (A:Int) (N:Int) x=true:=by simp only[sJ,hp,wah,waD];simpa using hx
 refine⟨?_,s2⟩
 rw[cd]
 simp only[wah,waD]
 rw[zbE hw hNA]
theorem zbH(H:Heap)(an:H.lo≤H.next)(h:Hd):af E (aK 204) [bO h] H fun r H'=>r= .agg #[.int .i64 (il h),.int .i64 h.kind,.int .i64 h.fields,.int .i64 h.bC,.int .i64 h.fu]∧aq H H':=by
 refine aV Tryz.f204 ?_
 simp only[Tryz.f204,bO]
 have s1:aq H ((H.newRow [.int .i64 h.kind,.int .i64 h.fields,.int .i64 h.bC,.bool h.mark,.int .i64 h.fu]).newRow [.int .i64 0,.int .i64 0,.int .i64 0,.int .i64 0,.int .i64 0]):=(eO _).newRow _
 cases hm:h.mark
 ·rw[hm]at s1
  simp(disch:=omega)only[↓aa,ab,simprocAttr,sa]
  exact⟨by simp only[il,hm];rfl,s1.setRow (by omega) _⟩
 ·rw[hm]at s1
  simp(disch:=omega)only[↓aa,ab,simprocAttr,sa]
  exact⟨by simp only[il,hm];rfl,s1.setRow (by omega) _⟩
theorem O7(H:Heap)(an:H.lo≤H.next):af E (aK 142) [] H fun r H'=>r= .agg #[.int .i64 2,.int .i64 1,.int .i64 1,.int .i64 3,.int .i64 5,.int .i64 31,.int .i64 8,.int .i64 16,.int .i64 4096,.int .i64 24,.int .i64 16,.int .i64 4096,.int .i64 40,.int .i64 24,.int .i64 1048576]∧aq H H':=by
 refine aV Tryz.f142 ?_
 simp only[Tryz.f142]
 simp(disch:=omega)only[↓aa,ab,simprocAttr,sa]
 exact od _ _ _
theorem O8(H:Heap)(an:H.lo≤H.next)(h:Hd):af E (aK 144) [bO h] H fun r H'=>r= .tuple #[.int .u64 ((if gW h then wH h 5 else 0:Nat):Int),.int .i64 (if gW h then 0 else 1)]∧aq H H':=by
 refine aV Tryz.f144 ?_
 simp only[Tryz.f144,bO]
 simp(disch:=omega)only[↓aa,ab,simprocAttr,sa]
 refine vK (fun H1 e1=>?_)
 have s1:aq H H1:=by rw[e1];exact eO _
 have n1:H1.next=H.next+1:=by rw[e1];simp(disch:=omega)only[ay,aN,az,aF,aE,aB,aM,aO,aQ,aP,aL,aD,aH,au,sl]
 have l1:=s1.lo
 clear e1
 refine(zbH H1 (by omega) h).mono ?_
 rintro r H2 ⟨rfl,s2⟩
 have n2:=s2.ag
 have l2:=s2.lo
 simp(disch:=omega)only[↓aa,ab,simprocAttr,sa]
 refine vK (fun H3 e3=>?_)
 have s3:aq H2 H3:=by rw[e3];exact od _ _ _
 have n3:H3.next=H2.next+1:=by rw[e3];simp(disch:=omega)only[ay,aN,az,aF,aE,aB,aM,aO,aQ,aP,aL,aD,aH,au,sl]
 have l3:=s3.lo
 have gN:H3.objs.get H2.next=some (.row [.int .i64 (il h),.int .i64 h.kind,.int .i64 h.fields,.int .i64 h.bC,.int .i64 h.fu] none true):=by rw[e3];simp(disch:=omega)only[ay,aN,az,aF,aE,aB,aM,aO,aQ,aP,aL,aD,aH,au,sl]
 clear e3
 refine(O7 H3 (by omega)).mono ?_
 rintro r H4 ⟨rfl,s4⟩
 have n4:=s4.ag
 have l4:=s4.lo
 have gN:=s4.keeps (by omega) gN
 have pP:=s1.trans (s2.trans (s3.trans s4))
 refine FO kq (fun k T X=>∃ i:Nat,k=5-i∧i≤5∧T.get 11=some (.int .i64 i)∧T.get 4=some (.int .u64 (wH h i:Nat))∧T.get 5=some (ptr H2.next 0)∧T.get 10=some (.agg #[.int .i64 2,.int .i64 1,.int .i64 1,.int .i64 3,.int .i64 5,.int .i64 31,.int .i64 8,.int .i64 16,.int .i64 4096,.int .i64 24,.int .i64 16,.int .i64 4096,.int .i64 40,.int .i64 24,.int .i64 1048576])∧aq H4 X∧∀ j,j<i→fY h j=true) 5 ?_ ?_
 ·exact⟨0,by omega,by omega,rfl,rfl,rfl,rfl,aq.refl _,fun j h=>absurd h (by omega)⟩
 rintro k T X ⟨i,rfl,hi,aY,h4,h5,aZ,s,cF⟩ Qs hQ aG ai
 have nX:=s.ag
 have lX:=s.lo
 have gX:=s.keeps (by omega) gN
 have bad:i≤4→fY h i=false→gW h=false:=by
  intro h1 h2
  rw[gW,wcD]
  exact⟨i,by simp;omega,by simp[h2]⟩
 have more:i≤4→fY h i=true→∀ j,j<i+1→fY h j=true:=by
  intro h1 h2 j hj
  by_cases e:j=i
  ·subst e;exact h2
  ·exact cF j (by omega)
 obtain rfl|rfl|rfl|rfl|rfl|rfl:i=0∨i=1∨i=2∨i=3∨i=4∨i=5:=by omega
 ·have fS:=BI (h:=h) (i:=0) (by omega) cF
  replace aY:T.get 11=some (.int .i64 0):=aY
  have sB:=od X [Value.int .i64 0,Value.int .i64 0,Value.int .i64 0] [Value.int .i64 2,Value.int .i64 1,Value.int .i64 1]
  cases y1:decide (il h<0)
  case true=>
   simp(disch:=omega)only[↓aa,ab,simprocAttr,sa,aY,aZ,gX]
   refine gU [(false,[],[]),(false,[],[]),(false,[],[]),(false,[],[]),(false,[],[]),(false,[],[]),(false,[],[]),(false,[],[]),(false,[],[]),(false,[],[]),(false,[],[]),(false,[],[])] kq ?_
   simp(disch:=omega)only[↓aa,ab,simprocAttr,sa,aY,aZ,h5,gX,y1]
   refine aG _ _ _ ?_
   simp(disch:=omega)only[↓aa,ab,simprocAttr,sa]
   have cd:=bad (by omega) (by simp only[fY,dp,y1];rfl)
   rw[cd]
   exact⟨rfl,pP.trans (s.trans sB)⟩
  cases y2:decide (1<il h)
  case true=>
   simp(disch:=omega)only[↓aa,ab,simprocAttr,sa,aY,aZ,gX]
   refine gU [(false,[],[]),(false,[],[]),(false,[],[]),(false,[],[]),(false,[],[]),(false,[],[]),(false,[],[]),(false,[],[]),(false,[],[]),(false,[],[]),(false,[],[]),(false,[],[])] kq ?_
   simp(disch:=omega)only[↓aa,ab,simprocAttr,sa,aY,aZ,h5,gX,y1,y2]
   refine aG _ _ _ ?_
   simp(disch:=omega)only[↓aa,ab,simprocAttr,sa]
   have cd:=bad (by omega) (by simp only[fY,dp,jO,y1,y2];rfl)
   rw[cd]
   exact⟨rfl,pP.trans (s.trans sB)⟩
  have hk:=more (by omega) (by simp only[fY,dp,jO,y1,y2];rfl)
  have y3:0≤il h:=by rw[wal]at y1;omega
  have y4:il h≤1:=by rw[wal]at y2;omega
  obtain⟨x,hx⟩:∃ x:Nat,il h=x:=⟨(il h).toNat,by omega⟩
  have sM:(dp h 0).toNat=x:=by simp only[dp,hx,waD]
  have m0:IntKind.u64.wrap (il h)=(x:Int):=by rw[wrap_u64 (by omega) (by omega)];exact hx
  simp(disch:=omega)only[↓aa,ab,simprocAttr,sa,aY,aZ,gX]
  refine gU [(false,[],[]),(false,[],[]),(false,[],[]),(false,[],[]),(false,[],[]),(false,[],[]),(false,[],[]),(false,[],[]),(false,[],[]),(false,[],[]),(false,[],[]),(false,[],[])] kq ?_
  simp(disch:=omega)only[↓aa,ab,simprocAttr,sa,aY,aZ,h5,h4,gX,y1,y2]
  refine gU [(false,[],[]),(false,[],[]),(false,[],[]),(false,[],[]),(false,[],[]),(false,[],[]),(false,[],[]),(false,[],[]),(false,[],[]),(false,[],[]),(false,[],[]),(false,[],[]),(false,[],[]),(false,[],[])] kq ?_
  simp(disch:=omega)only[↓aa,ab,simprocAttr,sa,aY,aZ,h5,h4,gX,m0]
  refine(BJ _ (by simp(disch:=omega)only[ay,aN,az,aF,aE,aB,aM,aO,aQ,aP,aL,aD,aH,au,sl];omega) (wH h 0) x 2 1 fS (by omega) (by omega) (by omega) (by omega)).mono ?_
  rintro r X2 ⟨rfl,ey⟩
  have jo:=ey.lo
  simp only[aB,aE]at jo
  have ou:wH h 1=wH h 0+x*2^2:=by
   show wH h 0+(dp h 0).toNat*2^pO 0=_
   rw[sM];rfl
  simp(disch:=omega)only[↓aa,ab,simprocAttr,sa,aY]
  refine hQ _ _ (5-1) (by omega) ?_
  refine⟨1,rfl,by omega,?_,?_,?_,?_,s.trans (sB.trans ey),hk⟩
  ·simp(disch:=omega)only[↓aa,ab,simprocAttr,sa,aY]
   try rfl
  ·rw[ou]
   simp(disch:=omega)only[↓aa,ab,simprocAttr,sa]
  ·simp(disch:=omega)only[↓aa,ab,simprocAttr,sa,h5]
  ·simp(disch:=omega)only[↓aa,ab,simprocAttr,sa,aZ]
 ·have fS:=BI (h:=h) (i:=1) (by omega) cF
  replace aY:T.get 11=some (.int .i64 1):=aY
  have sB:=od X [Value.int .i64 0,Value.int .i64 0,Value.int .i64 0] [Value.int .i64 3,Value.int .i64 5,Value.int .i64 31]
  cases y1:decide (h.kind<0)
  case true=>
   simp(disch:=omega)only[↓aa,ab,simprocAttr,sa,aY,aZ,gX]
   refine gU [(false,[],[]),(false,[],[]),(false,[],[]),(false,[],[]),(false,[],[]),(false,[],[]),(false,[],[]),(false,[],[]),(false,[],[]),(false,[],[]),(false,[],[]),(false,[],[])] kq ?_
   simp(disch:=omega)only[↓aa,ab,simprocAttr,sa,aY,aZ,h5,gX,y1]
   refine aG _ _ _ ?_
   simp(disch:=omega)only[↓aa,ab,simprocAttr,sa]
   have cd:=bad (by omega) (by simp only[fY,dp,y1];rfl)
   rw[cd]
   exact⟨rfl,pP.trans (s.trans sB)⟩
  cases y2:decide (31<h.kind)
  case true=>
   simp(disch:=omega)only[↓aa,ab,simprocAttr,sa,aY,aZ,gX]
   refine gU [(false,[],[]),(false,[],[]),(false,[],[]),(false,[],[]),(false,[],[]),(false,[],[]),(false,[],[]),(false,[],[]),(false,[],[]),(false,[],[]),(false,[],[]),(false,[],[])] kq ?_
   simp(disch:=omega)only[↓aa,ab,simprocAttr,sa,aY,aZ,h5,gX,y1,y2]
   refine aG _ _ _ ?_
   simp(disch:=omega)only[↓aa,ab,simprocAttr,sa]
   have cd:=bad (by omega) (by simp only[fY,dp,jO,y1,y2];rfl)
   rw[cd]
   exact⟨rfl,pP.trans (s.trans sB)⟩
  have hk:=more (by omega) (by simp only[fY,dp,jO,y1,y2];rfl)
  have y3:0≤h.kind:=by rw[wal]at y1;omega
  have y4:h.kind≤31:=by rw[wal]at y2;omega
  obtain⟨x,hx⟩:∃ x:Nat,h.kind=x:=⟨(h.kind).toNat,by omega⟩
  have sM:(dp h 1).toNat=x:=by simp only[dp,hx,waD]
  have m0:IntKind.u64.wrap (h.kind)=(x:Int):=by rw[wrap_u64 (by omega) (by omega)];exact hx
  simp(disch:=omega)only[↓aa,ab,simprocAttr,sa,aY,aZ,gX]
  refine gU [(false,[],[]),(false,[],[]),(false,[],[]),(false,[],[]),(false,[],[]),(false,[],[]),(false,[],[]),(false,[],[]),(false,[],[]),(false,[],[]),(false,[],[]),(false,[],[])] kq ?_
  simp(disch:=omega)only[↓aa,ab,simprocAttr,sa,aY,aZ,h5,h4,gX,y1,y2]
  refine gU [(false,[],[]),(false,[],[]),(false,[],[]),(false,[],[]),(false,[],[]),(false,[],[]),(false,[],[]),(false,[],[]),(false,[],[]),(false,[],[]),(false,[],[]),(false,[],[]),(false,[],[]),(false,[],[])] kq ?_
  simp(disch:=omega)only[↓aa,ab,simprocAttr,sa,aY,aZ,h5,h4,gX,m0]
  refine(BJ _ (by simp(disch:=omega)only[ay,aN,az,aF,aE,aB,aM,aO,aQ,aP,aL,aD,aH,au,sl];omega) (wH h 1) x 3 5 fS (by omega) (by omega) (by omega) (by omega)).mono ?_
  rintro r X2 ⟨rfl,ey⟩
  have jo:=ey.lo
  simp only[aB,aE]at jo
  have ou:wH h 2=wH h 1+x*2^3:=by
   show wH h 1+(dp h 1).toNat*2^pO 1=_
   rw[sM];rfl
  simp(disch:=omega)only[↓aa,ab,simprocAttr,sa,aY]
  refine hQ _ _ (5-2) (by omega) ?_
  refine⟨2,rfl,by omega,?_,?_,?_,?_,s.trans (sB.trans ey),hk⟩
  ·simp(disch:=omega)only[↓aa,ab,simprocAttr,sa,aY]
   try rfl
  ·rw[ou]
   simp(disch:=omega)only[↓aa,ab,simprocAttr,sa]
  ·simp(disch:=omega)only[↓aa,ab,simprocAttr,sa,h5]
  ·simp(disch:=omega)only[↓aa,ab,simprocAttr,sa,aZ]
 ·have fS:=BI (h:=h) (i:=2) (by omega) cF
  replace aY:T.get 11=some (.int .i64 2):=aY
  have sB:=od X [Value.int .i64 0,Value.int .i64 0,Value.int .i64 0] [Value.int .i64 8,Value.int .i64 16,Value.int .i64 4096]
  cases y1:decide (h.fields<0)
  case true=>
   simp(disch:=omega)only[↓aa,ab,simprocAttr,sa,aY,aZ,gX]
   refine gU [(false,[],[]),(false,[],[]),(false,[],[]),(false,[],[]),(false,[],[]),(false,[],[]),(false,[],[]),(false,[],[]),(false,[],[]),(false,[],[]),(false,[],[]),(false,[],[])] kq ?_
   simp(disch:=omega)only[↓aa,ab,simprocAttr,sa,aY,aZ,h5,gX,y1]
   refine aG _ _ _ ?_
   simp(disch:=omega)only[↓aa,ab,simprocAttr,sa]
   have cd:=bad (by omega) (by simp only[fY,dp,y1];rfl)
   rw[cd]
   exact⟨rfl,pP.trans (s.trans sB)⟩
  cases y2:decide (4096<h.fields)
  case true=>
   simp(disch:=omega)only[↓aa,ab,simprocAttr,sa,aY,aZ,gX]
   refine gU [(false,[],[]),(false,[],[]),(false,[],[]),(false,[],[]),(false,[],[]),(false,[],[]),(false,[],[]),(false,[],[]),(false,[],[]),(false,[],[]),(false,[],[]),(false,[],[])] kq ?_
   simp(disch:=omega)only[↓aa,ab,simprocAttr,sa,aY,aZ,h5,gX,y1,y2]
   refine aG _ _ _ ?_
   simp(disch:=omega)only[↓aa,ab,simprocAttr,sa]
   have cd:=bad (by omega) (by simp only[fY,dp,jO,y1,y2];rfl)
   rw[cd]
   exact⟨rfl,pP.trans (s.trans sB)⟩
  have hk:=more (by omega) (by simp only[fY,dp,jO,y1,y2];rfl)
  have y3:0≤h.fields:=by rw[wal]at y1;omega
  have y4:h.fields≤4096:=by rw[wal]at y2;omega
  obtain⟨x,hx⟩:∃ x:Nat,h.fields=x:=⟨(h.fields).toNat,by omega⟩
  have sM:(dp h 2).toNat=x:=by simp only[dp,hx,waD]
  have m0:IntKind.u64.wrap (h.fields)=(x:Int):=by rw[wrap_u64 (by omega) (by omega)];exact hx
  simp(disch:=omega)only[↓aa,ab,simprocAttr,sa,aY,aZ,gX]
  refine gU [(false,[],[]),(false,[],[]),(false,[],[]),(false,[],[]),(false,[],[]),(false,[],[]),(false,[],[]),(false,[],[]),(false,[],[]),(false,[],[]),(false,[],[]),(false,[],[])] kq ?_
  simp(disch:=omega)only[↓aa,ab,simprocAttr,sa,aY,aZ,h5,h4,gX,y1,y2]
  refine gU [(false,[],[]),(false,[],[]),(false,[],[]),(false,[],[]),(false,[],[]),(false,[],[]),(false,[],[]),(false,[],[]),(false,[],[]),(false,[],[]),(false,[],[]),(false,[],[]),(false,[],[]),(false,[],[])] kq ?_
  simp(disch:=omega)only[↓aa,ab,simprocAttr,sa,aY,aZ,h5,h4,gX,m0]
  refine(BJ _ (by simp(disch:=omega)only[ay,aN,az,aF,aE,aB,aM,aO,aQ,aP,aL,aD,aH,au,sl];omega) (wH h 2) x 8 16 fS (by omega) (by omega) (by omega) (by omega)).mono ?_
  rintro r X2 ⟨rfl,ey⟩
  have jo:=ey.lo
  simp only[aB,aE]at jo
  have ou:wH h 3=wH h 2+x*2^8:=by
   show wH h 2+(dp h 2).toNat*2^pO 2=_
   rw[sM];rfl
  simp(disch:=omega)only[↓aa,ab,simprocAttr,sa,aY]
  refine hQ _ _ (5-3) (by omega) ?_
  refine⟨3,rfl,by omega,?_,?_,?_,?_,s.trans (sB.trans ey),hk⟩
  ·simp(disch:=omega)only[↓aa,ab,simprocAttr,sa,aY]
   try rfl
  ·rw[ou]
   simp(disch:=omega)only[↓aa,ab,simprocAttr,sa]
  ·simp(disch:=omega)only[↓aa,ab,simprocAttr,sa,h5]
  ·simp(disch:=omega)only[↓aa,ab,simprocAttr,sa,aZ]
 ·have fS:=BI (h:=h) (i:=3) (by omega) cF
  replace aY:T.get 11=some (.int .i64 3):=aY
  have sB:=od X [Value.int .i64 0,Value.int .i64 0,Value.int .i64 0] [Value.int .i64 24,Value.int .i64 16,Value.int .i64 4096]
  cases y1:decide (h.bC<0)
  case true=>
   simp(disch:=omega)only[↓aa,ab,simprocAttr,sa,aY,aZ,gX]
   refine gU [(false,[],[]),(false,[],[]),(false,[],[]),(false,[],[]),(false,[],[]),(false,[],[]),(false,[],[]),(false,[],[]),(false,[],[]),(false,[],[]),(false,[],[]),(false,[],[])] kq ?_
   simp(disch:=omega)only[↓aa,ab,simprocAttr,sa,aY,aZ,h5,gX,y1]
   refine aG _ _ _ ?_
   simp(disch:=omega)only[↓aa,ab,simprocAttr,sa]
   have cd:=bad (by omega) (by simp only[fY,dp,y1];rfl)
   rw[cd]
   exact⟨rfl,pP.trans (s.trans sB)⟩
  cases y2:decide (4096<h.bC)
  case true=>
   simp(disch:=omega)only[↓aa,ab,simprocAttr,sa,aY,aZ,gX]
   refine gU [(false,[],[]),(false,[],[]),(false,[],[]),(false,[],[]),(false,[],[]),(false,[],[]),(false,[],[]),(false,[],[]),(false,[],[]),(false,[],[]),(false,[],[]),(false,[],[])] kq ?_
   simp(disch:=omega)only[↓aa,ab,simprocAttr,sa,aY,aZ,h5,gX,y1,y2]
   refine aG _ _ _ ?_
   simp(disch:=omega)only[↓aa,ab,simprocAttr,sa]
   have cd:=bad (by omega) (by simp only[fY,dp,jO,y1,y2];rfl)
   rw[cd]
   exact⟨rfl,pP.trans (s.trans sB)⟩
  have hk:=more (by omega) (by simp only[fY,dp,jO,y1,y2];rfl)
  have y3:0≤h.bC:=by rw[wal]at y1;omega
  have y4:h.bC≤4096:=by rw[wal]at y2;omega
  obtain⟨x,hx⟩:∃ x:Nat,h.bC=x:=⟨(h.bC).toNat,by omega⟩
  have sM:(dp h 3).toNat=x:=by simp only[dp,hx,waD]
  have m0:IntKind.u64.wrap (h.bC)=(x:Int):=by rw[wrap_u64 (by omega) (by omega)];exact hx
  simp(disch:=omega)only[↓aa,ab,simprocAttr,sa,aY,aZ,gX]
  refine gU [(false,[],[]),(false,[],[]),(false,[],[]),(false,[],[]),(false,[],[]),(false,[],[]),(false,[],[]),(false,[],[]),(false,[],[]),(false,[],[]),(false,[],[]),(false,[],[])] kq ?_
  simp(disch:=omega)only[↓aa,ab,simprocAttr,sa,aY,aZ,h5,h4,gX,y1,y2]
  refine gU [(false,[],[]),(false,[],[]),(false,[],[]),(false,[],[]),(false,[],[]),(false,[],[]),(false,[],[]),(false,[],[]),(false,[],[]),(false,[],[]),(false,[],[]),(false,[],[]),(false,[],[]),(false,[],[])] kq ?_
  simp(disch:=omega)only[↓aa,ab,simprocAttr,sa,aY,aZ,h5,h4,gX,m0]
  refine(BJ _ (by simp(disch:=omega)only[ay,aN,az,aF,aE,aB,aM,aO,aQ,aP,aL,aD,aH,au,sl];omega) (wH h 3) x 24 16 fS (by omega) (by omega) (by omega) (by omega)).mono ?_
  rintro r X2 ⟨rfl,ey⟩
  have jo:=ey.lo
  simp only[aB,aE]at jo
  have ou:wH h 4=wH h 3+x*2^24:=by
   show wH h 3+(dp h 3).toNat*2^pO 3=_
   rw[sM];rfl
  simp(disch:=omega)only[↓aa,ab,simprocAttr,sa,aY]
  refine hQ _ _ (5-4) (by omega) ?_
  refine⟨4,rfl,by omega,?_,?_,?_,?_,s.trans (sB.trans ey),hk⟩
  ·simp(disch:=omega)only[↓aa,ab,simprocAttr,sa,aY]
   try rfl
  ·rw[ou]
   simp(disch:=omega)only[↓aa,ab,simprocAttr,sa]
  ·simp(disch:=omega)only[↓aa,ab,simprocAttr,sa,h5]
  ·simp(disch:=omega)only[↓aa,ab,simprocAttr,sa,aZ]
 ·have fS:=BI (h:=h) (i:=4) (by omega) cF
  replace aY:T.get 11=some (.int .i64 4):=aY
  have sB:=od X [Value.int .i64 0,Value.int .i64 0,Value.int .i64 0] [Value.int .i64 40,Value.int .i64 24,Value.int .i64 1048576]
  cases y1:decide (h.fu<0)
  case true=>
   simp(disch:=omega)only[↓aa,ab,simprocAttr,sa,aY,aZ,gX]
   refine gU [(false,[],[]),(false,[],[]),(false,[],[]),(false,[],[]),(false,[],[]),(false,[],[]),(false,[],[]),(false,[],[]),(false,[],[]),(false,[],[]),(false,[],[]),(false,[],[])] kq ?_
   simp(disch:=omega)only[↓aa,ab,simprocAttr,sa,aY,aZ,h5,gX,y1]
   refine aG _ _ _ ?_
   simp(disch:=omega)only[↓aa,ab,simprocAttr,sa]
   have cd:=bad (by omega) (by simp only[fY,dp,y1];rfl)
   rw[cd]
   exact⟨rfl,pP.trans (s.trans sB)⟩
  cases y2:decide (1048576<h.fu)
  case true=>
   simp(disch:=omega)only[↓aa,ab,simprocAttr,sa,aY,aZ,gX]
   refine gU [(false,[],[]),(false,[],[]),(false,[],[]),(false,[],[]),(false,[],[]),(false,[],[]),(false,[],[]),(false,[],[]),(false,[],[]),(false,[],[]),(false,[],[]),(false,[],[])] kq ?_
   simp(disch:=omega)only[↓aa,ab,simprocAttr,sa,aY,aZ,h5,gX,y1,y2]
   refine aG _ _ _ ?_
   simp(disch:=omega)only[↓aa,ab,simprocAttr,sa]
   have cd:=bad (by omega) (by simp only[fY,dp,jO,y1,y2];rfl)
   rw[cd]
   exact⟨rfl,pP.trans (s.trans sB)⟩
  have hk:=more (by omega) (by simp only[fY,dp,jO,y1,y2];rfl)
  have y3:0≤h.fu:=by rw[wal]at y1;omega
  have y4:h.fu≤1048576:=by rw[wal]at y2;omega
  obtain⟨x,hx⟩:∃ x:Nat,h.fu=x:=⟨(h.fu).toNat,by omega⟩
  have sM:(dp h 4).toNat=x:=by simp only[dp,hx,waD]
  have m0:IntKind.u64.wrap (h.fu)=(x:Int):=by rw[wrap_u64 (by omega) (by omega)];exact hx
  simp(disch:=omega)only[↓aa,ab,simprocAttr,sa,aY,aZ,gX]
  refine gU [(false,[],[]),(false,[],[]),(false,[],[]),(false,[],[]),(false,[],[]),(false,[],[]),(false,[],[]),(false,[],[]),(false,[],[]),(false,[],[]),(false,[],[]),(false,[],[])] kq ?_
  simp(disch:=omega)only[↓aa,ab,simprocAttr,sa,aY,aZ,h5,h4,gX,y1,y2]
  refine gU [(false,[],[]),(false,[],[]),(false,[],[]),(false,[],[]),(false,[],[]),(false,[],[]),(false,[],[]),(false,[],[]),(false,[],[]),(false,[],[]),(false,[],[]),(false,[],[]),(false,[],[]),(false,[],[])] kq ?_
  simp(disch:=omega)only[↓aa,ab,simprocAttr,sa,aY,aZ,h5,h4,gX,m0]
  refine(BJ _ (by simp(disch:=omega)only[ay,aN,az,aF,aE,aB,aM,aO,aQ,aP,aL,aD,aH,au,sl];omega) (wH h 4) x 40 24 fS (by omega) (by omega) (by omega) (by omega)).mono ?_
  rintro r X2 ⟨rfl,ey⟩
  have jo:=ey.lo
  simp only[aB,aE]at jo
  have ou:wH h 5=wH h 4+x*2^40:=by
   show wH h 4+(dp h 4).toNat*2^pO 4=_
   rw[sM];rfl
  simp(disch:=omega)only[↓aa,ab,simprocAttr,sa,aY]
  refine hQ _ _ (5-5) (by omega) ?_
  refine⟨5,rfl,by omega,?_,?_,?_,?_,s.trans (sB.trans ey),hk⟩
  ·simp(disch:=omega)only[↓aa,ab,simprocAttr,sa,aY]
   try rfl
  ·rw[ou]
   simp(disch:=omega)only[↓aa,ab,simprocAttr,sa]
  ·simp(disch:=omega)only[↓aa,ab,simprocAttr,sa,h5]
  ·simp(disch:=omega)only[↓aa,ab,simprocAttr,sa,aZ]
 ·replace aY:T.get 11=some (.int .i64 5):=aY
  simp(disch:=omega)only[↓aa,ab,simprocAttr,sa,aY]
  refine ai _ _ _ _ ?_
  simp(disch:=omega)only[↓aa,ab,simprocAttr,sa,h4]
  have cd:gW h=true:=by
   rw[gW,waC]
   intro j hj
   exact cF j (by simpa using hj)
  rw[cd]
  exact⟨rfl,pP.trans s⟩
theorem qY(w a n:Nat):cB w a n<2^n:=Nat.mod_lt _ (wcu (by omega))
def ct(h:Hd):Int:=if gW h then 1+h.fields+h.bC else 0
theorem ku{h:Hd}(hk:gW h=true):0≤h.kind∧h.kind≤31∧0≤h.fields∧h.fields≤4096∧0≤h.bC∧h.bC≤4096∧0≤h.fu∧h.fu≤1048576:=by
 have hj:∀ j,j<5→fY h j=true:=fun j hj=>waC.1 hk j (by simpa using hj)
 have h1:=nq (hj 1 (by omega))
 have h2:=nq (hj 2 (by omega))
 have h3:=nq (hj 3 (by omega))
 have h4:=nq (hj 4 (by omega))
 simp only[dp,jO]at h1 h2 h3 h4
 omega
theorem qP(H:Heap)(an:H.lo≤H.next)(h:Hd):af E (aK 105) [bO h] H fun r H'=>r= .int .i64 (ct h)∧aq H H':=by
 refine aV Tryz.f105 ?_
 simp only[Tryz.f105,bO]
 simp(disch:=omega)only[↓aa,ab,simprocAttr,sa]
 refine vK (fun H1 e1=>?_)
 have s1:aq H H1:=by rw[e1];exact eO _
 have n1:H1.next=H.next+1:=by rw[e1];simp(disch:=omega)only[ay,aN,az,aF,aE,aB,aM,aO,aQ,aP,aL,aD,aH,au,sl]
 have l1:=s1.lo
 have b1:H1.objs.get H.next=some (.row [.int .i64 h.kind,.int .i64 h.fields,.int .i64 h.bC,.bool h.mark,.int .i64 h.fu] none true):=by rw[e1];simp(disch:=omega)only[ay,aN,az,aF,aE,aB,aM,aO,aQ,aP,aL,aD,aH,au,sl]
 clear e1
 refine(O8 H1 (by omega) h).mono ?_
 rintro r H2 ⟨hr,s2⟩
 have b2:=s2.keeps (by omega) b1
 cases hk:gW h
 case false=>
  rw[hk]at hr
  replace hr:r= .tuple #[.int .u64 0,.int .i64 1]:=hr
  subst hr
  simp(disch:=omega)only[↓aa,ab,simprocAttr,sa]
  exact⟨by simp only[ct,hk];rfl,s1.trans s2⟩
 rw[hk]at hr
 replace hr:r= .tuple #[.int .u64 (wH h 5:Nat),.int .i64 0]:=hr
 subst hr
 obtain⟨q1,q2,q3,q4,q5,q6,q7,q8⟩:=ku hk
 simp(disch:=omega)only[↓aa,ab,simprocAttr,sa,b2]
 exact⟨by simp only[ct,hk];rfl,s1.trans s2⟩
def fq(w:Nat):Hd:=⟨(cB w 3 5:Nat),(cB w 8 16:Nat),(cB w 24 16:Nat),decide (((cB w 2 1:Nat):Int)=1),(cB w 40 24:Nat)⟩
def kp(w:Nat):Bool:=if gW (fq w)then decide (wH (fq w) 5=w)else false
def gI:Hd:=⟨0,0,0,false,0⟩
theorem Ib(H:Heap)(an:H.lo≤H.next)(w:Nat)(hw:w<2^64):af E (aK 104) [.int .u64 (w:Int)] H fun r H'=>r= .tuple #[bO (if kp w then fq w else gI),.int .i64 (if kp w then 0 else 3)]∧aq H H':=by
 refine aV Tryz.f104 ?_
 simp only[Tryz.f104]
 simp(disch:=omega)only[↓aa,ab,simprocAttr,sa]
 refine vK (fun H1 e1=>?_)
 have s1:aq H H1:=by rw[e1];exact(eO _).newRow _
 have n1:H1.next=H.next+1+1:=by rw[e1];simp(disch:=omega)only[ay,aN,az,aF,aE,aB,aM,aO,aQ,aP,aL,aD,aH,au,sl]
 have l1:=s1.lo
 have bR:H1.objs.get H.next=some (.row [.int .i64 0,.int .i64 0,.int .i64 0,.bool false,.int .i64 0] none true):=by rw[e1];simp(disch:=omega)only[ay,aN,az,aF,aE,aB,aM,aO,aQ,aP,aL,aD,aH,au,sl]
 have bN:H1.objs.get (H.next+1)=some (.row [Value.int .i64 0,Value.int .i64 0,Value.int .i64 0,Value.int .i64 0,Value.int .i64 0] none true):=by rw[e1];simp(disch:=omega)only[ay,aN,az,aF,aE,aB,aM,aO,aQ,aP,aL,aD,aH,au,sl]
 clear e1
 refine(O7 H1 (by omega)).mono ?_
 rintro r H2 ⟨rfl,s2⟩
 have n2:=s2.ag
 have l2:=s2.lo
 have bR:=s2.keeps (by omega) bR
 have bN:=s2.keeps (by omega) bN
 have s02:=s1.trans s2
 refine FO kq (fun k T X=>∃ (i:Nat) (row:List Value),k=5-i∧i≤5∧T.get 13=some (.int .i64 i)∧T.get 0=some (.int .u64 (w:Int))∧T.get 4=some (ptr (H.next+1) 0)∧T.get 2=some (ptr H.next 0)∧T.get 12=some (.agg #[.int .i64 2,.int .i64 1,.int .i64 1,.int .i64 3,.int .i64 5,.int .i64 31,.int .i64 8,.int .i64 16,.int .i64 4096,.int .i64 24,.int .i64 16,.int .i64 4096,.int .i64 40,.int .i64 24,.int .i64 1048576])∧mZ (H.next+1) H2 X∧X.objs.get (H.next+1)=some (.row row none true)∧((i=0∧row=[Value.int .i64 0,Value.int .i64 0,Value.int .i64 0,Value.int .i64 0,Value.int .i64 0])∨(i=1∧row=[Value.int .i64 ((cB w 2 1:Nat):Int),Value.int .i64 0,Value.int .i64 0,Value.int .i64 0,Value.int .i64 0])∨(i=2∧row=[Value.int .i64 ((cB w 2 1:Nat):Int),Value.int .i64 ((cB w 3 5:Nat):Int),Value.int .i64 0,Value.int .i64 0,Value.int .i64 0])∨(i=3∧row=[Value.int .i64 ((cB w 2 1:Nat):Int),Value.int .i64 ((cB w 3 5:Nat):Int),Value.int .i64 ((cB w 8 16:Nat):Int),Value.int .i64 0,Value.int .i64 0])∨(i=4∧row=[Value.int .i64 ((cB w 2 1:Nat):Int),Value.int .i64 ((cB w 3 5:Nat):Int),Value.int .i64 ((cB w 8 16:Nat):Int),Value.int .i64 ((cB w 24 16:Nat):Int),Value.int .i64 0])∨(i=5∧row=[Value.int .i64 ((cB w 2 1:Nat):Int),Value.int .i64 ((cB w 3 5:Nat):Int),Value.int .i64 ((cB w 8 16:Nat):Int),Value.int .i64 ((cB w 24 16:Nat):Int),Value.int .i64 ((cB w 40 24:Nat):Int)]))) 5 ?_ ?_
 ·exact⟨0,_,by omega,by omega,rfl,rfl,rfl,rfl,rfl,(aq.refl _).HY _,bN,.inl ⟨rfl,rfl⟩⟩
 rintro k T X ⟨i,row,rfl,hi,bQ,h0,h4,h2,bH,s,hX,aC⟩ Qs hQ aG ai
 have nX:=s.ag
 have lX:=s.lo
 have bRX:=s.keeps (by omega) (by omega) bR
 have s0X:=s.same s02 (by omega)
 rcases aC with⟨rfl,rfl⟩|⟨rfl,rfl⟩|⟨rfl,rfl⟩|⟨rfl,rfl⟩|⟨rfl,rfl⟩|⟨rfl,rfl⟩
 ·replace bQ:T.get 13=some (.int .i64 0):=bQ
  have sB:=od X [Value.int .i64 0,Value.int .i64 0,Value.int .i64 0] [Value.int .i64 2,Value.int .i64 1,Value.int .i64 1]
  have hlt:=qY w 2 1
  simp(disch:=omega)only[↓aa,ab,simprocAttr,sa,bQ,bH,h0]
  refine(BF _ (by simp(disch:=omega)only[ay,aN,az,aF,aE,aB,aM,aO,aQ,aP,aL,aD,aH,au,sl];omega) w hw 2 1).mono ?_
  rintro r X2 ⟨hr,ey⟩
  have jo:=ey.lo
  simp only[aB,aE]at jo
  have sO:X2.objs.get (H.next+1)=_:=ey.keeps (by simp(disch:=omega)only[ay,aN,az,aF,aE,aB,aM,aO,aQ,aP,aL,aD,aH,au,sl];omega) (sB.keeps (by omega) hX)
  replace hr:r= .tuple #[.int .u64 ((cB w 2 1:Nat):Int),.bool true]:=hr
  subst hr
  simp(disch:=omega)only[↓aa,ab,simprocAttr,sa,bQ,h4,sO]
  refine hQ _ _ (5-1) (by omega) ?_
  refine⟨1,_,rfl,by omega,?_,?_,?_,?_,?_,(s.trans (sB.trans ey)).setRow _,by simp(disch:=omega)only[ay,aN,az,aF,aE,aB,aM,aO,aQ,aP,aL,aD,aH,au,sl],.inr (.inl ⟨rfl,rfl⟩)⟩
  ·simp(disch:=omega)only[↓aa,ab,simprocAttr,sa,bQ]
   try rfl
  ·simp(disch:=omega)only[↓aa,ab,simprocAttr,sa,h0]
  ·simp(disch:=omega)only[↓aa,ab,simprocAttr,sa,h4]
  ·simp(disch:=omega)only[↓aa,ab,simprocAttr,sa,h2]
  ·simp(disch:=omega)only[↓aa,ab,simprocAttr,sa,bH]
 ·replace bQ:T.get 13=some (.int .i64 1):=bQ
  have sB:=od X [Value.int .i64 0,Value.int .i64 0,Value.int .i64 0] [Value.int .i64 3,Value.int .i64 5,Value.int .i64 31]
  have hlt:=qY w 3 5
  simp(disch:=omega)only[↓aa,ab,simprocAttr,sa,bQ,bH,h0]
  refine(BF _ (by simp(disch:=omega)only[ay,aN,az,aF,aE,aB,aM,aO,aQ,aP,aL,aD,aH,au,sl];omega) w hw 3 5).mono ?_
  rintro r X2 ⟨hr,ey⟩
  have jo:=ey.lo
  simp only[aB,aE]at jo
  have sO:X2.objs.get (H.next+1)=_:=ey.keeps (by simp(disch:=omega)only[ay,aN,az,aF,aE,aB,aM,aO,aQ,aP,aL,aD,aH,au,sl];omega) (sB.keeps (by omega) hX)
  replace hr:r= .tuple #[.int .u64 ((cB w 3 5:Nat):Int),.bool true]:=hr
  subst hr
  simp(disch:=omega)only[↓aa,ab,simprocAttr,sa,bQ,h4,sO]
  refine hQ _ _ (5-2) (by omega) ?_
  refine⟨2,_,rfl,by omega,?_,?_,?_,?_,?_,(s.trans (sB.trans ey)).setRow _,by simp(disch:=omega)only[ay,aN,az,aF,aE,aB,aM,aO,aQ,aP,aL,aD,aH,au,sl],.inr (.inr (.inl ⟨rfl,rfl⟩))⟩
  ·simp(disch:=omega)only[↓aa,ab,simprocAttr,sa,bQ]
   try rfl
  ·simp(disch:=omega)only[↓aa,ab,simprocAttr,sa,h0]
  ·simp(disch:=omega)only[↓aa,ab,simprocAttr,sa,h4]
  ·simp(disch:=omega)only[↓aa,ab,simprocAttr,sa,h2]
  ·simp(disch:=omega)only[↓aa,ab,simprocAttr,sa,bH]
 ·replace bQ:T.get 13=some (.int .i64 2):=bQ
  have sB:=od X [Value.int .i64 0,Value.int .i64 0,Value.int .i64 0] [Value.int .i64 8,Value.int .i64 16,Value.int .i64 4096]
  have hlt:=qY w 8 16
  simp(disch:=omega)only[↓aa,ab,simprocAttr,sa,bQ,bH,h0]
  refine(BF _ (by simp(disch:=omega)only[ay,aN,az,aF,aE,aB,aM,aO,aQ,aP,aL,aD,aH,au,sl];omega) w hw 8 16).mono ?_
  rintro r X2 ⟨hr,ey⟩
  have jo:=ey.lo
  simp only[aB,aE]at jo
  have sO:X2.objs.get (H.next+1)=_:=ey.keeps (by simp(disch:=omega)only[ay,aN,az,aF,aE,aB,aM,aO,aQ,aP,aL,aD,aH,au,sl];omega) (sB.keeps (by omega) hX)
  replace hr:r= .tuple #[.int .u64 ((cB w 8 16:Nat):Int),.bool true]:=hr
  subst hr
  simp(disch:=omega)only[↓aa,ab,simprocAttr,sa,bQ,h4,sO]
  refine hQ _ _ (5-3) (by omega) ?_
  refine⟨3,_,rfl,by omega,?_,?_,?_,?_,?_,(s.trans (sB.trans ey)).setRow _,by simp(disch:=omega)only[ay,aN,az,aF,aE,aB,aM,aO,aQ,aP,aL,aD,aH,au,sl],.inr (.inr (.inr (.inl ⟨rfl,rfl⟩)))⟩
  ·simp(disch:=omega)only[↓aa,ab,simprocAttr,sa,bQ]
   try rfl
  ·simp(disch:=omega)only[↓aa,ab,simprocAttr,sa,h0]
  ·simp(disch:=omega)only[↓aa,ab,simprocAttr,sa,h4]
  ·simp(disch:=omega)only[↓aa,ab,simprocAttr,sa,h2]
  ·simp(disch:=omega)only[↓aa,ab,simprocAttr,sa,bH]
 ·replace bQ:T.get 13=some (.int .i64 3):=bQ
  have sB:=od X [Value.int .i64 0,Value.int .i64 0,Value.int .i64 0] [Value.int .i64 24,Value.int .i64 16,Value.int .i64 4096]
  have hlt:=qY w 24 16
  simp(disch:=omega)only[↓aa,ab,simprocAttr,sa,bQ,bH,h0]
  refine(BF _ (by simp(disch:=omega)only[ay,aN,az,aF,aE,aB,aM,aO,aQ,aP,aL,aD,aH,au,sl];omega) w hw 24 16).mono ?_
  rintro r X2 ⟨hr,ey⟩
  have jo:=ey.lo
  simp only[aB,aE]at jo
  have sO:X2.objs.get (H.next+1)=_:=ey.keeps (by simp(disch:=omega)only[ay,aN,az,aF,aE,aB,aM,aO,aQ,aP,aL,aD,aH,au,sl];omega) (sB.keeps (by omega) hX)
  replace hr:r= .tuple #[.int .u64 ((cB w 24 16:Nat):Int),.bool true]:=hr
  subst hr
  simp(disch:=omega)only[↓aa,ab,simprocAttr,sa,bQ,h4,sO]
  refine hQ _ _ (5-4) (by omega) ?_
  refine⟨4,_,rfl,by omega,?_,?_,?_,?_,?_,(s.trans (sB.trans ey)).setRow _,by simp(disch:=omega)only[ay,aN,az,aF,aE,aB,aM,aO,aQ,aP,aL,aD,aH,au,sl],.inr (.inr (.inr (.inr (.inl ⟨rfl,rfl⟩))))⟩
  ·simp(disch:=omega)only[↓aa,ab,simprocAttr,sa,bQ]
   try rfl
  ·simp(disch:=omega)only[↓aa,ab,simprocAttr,sa,h0]
  ·simp(disch:=omega)only[↓aa,ab,simprocAttr,sa,h4]
  ·simp(disch:=omega)only[↓aa,ab,simprocAttr,sa,h2]
  ·simp(disch:=omega)only[↓aa,ab,simprocAttr,sa,bH]
 ·replace bQ:T.get 13=some (.int .i64 4):=bQ
  have sB:=od X [Value.int .i64 0,Value.int .i64 0,Value.int .i64 0] [Value.int .i64 40,Value.int .i64 24,Value.int .i64 1048576]
  have hlt:=qY w 40 24
  simp(disch:=omega)only[↓aa,ab,simprocAttr,sa,bQ,bH,h0]
  refine(BF _ (by simp(disch:=omega)only[ay,aN,az,aF,aE,aB,aM,aO,aQ,aP,aL,aD,aH,au,sl];omega) w hw 40 24).mono ?_
  rintro r X2 ⟨hr,ey⟩
  have jo:=ey.lo
  simp only[aB,aE]at jo
  have sO:X2.objs.get (H.next+1)=_:=ey.keeps (by simp(disch:=omega)only[ay,aN,az,aF,aE,aB,aM,aO,aQ,aP,aL,aD,aH,au,sl];omega) (sB.keeps (by omega) hX)
  replace hr:r= .tuple #[.int .u64 ((cB w 40 24:Nat):Int),.bool true]:=hr
  subst hr
  simp(disch:=omega)only[↓aa,ab,simprocAttr,sa,bQ,h4,sO]
  refine hQ _ _ (5-5) (by omega) ?_
  refine⟨5,_,rfl,by omega,?_,?_,?_,?_,?_,(s.trans (sB.trans ey)).setRow _,by simp(disch:=omega)only[ay,aN,az,aF,aE,aB,aM,aO,aQ,aP,aL,aD,aH,au,sl],.inr (.inr (.inr (.inr (.inr (⟨rfl,rfl⟩)))))⟩
  ·simp(disch:=omega)only[↓aa,ab,simprocAttr,sa,bQ]
   try rfl
  ·simp(disch:=omega)only[↓aa,ab,simprocAttr,sa,h0]
  ·simp(disch:=omega)only[↓aa,ab,simprocAttr,sa,h4]
  ·simp(disch:=omega)only[↓aa,ab,simprocAttr,sa,h2]
  ·simp(disch:=omega)only[↓aa,ab,simprocAttr,sa,bH]
 ·replace bQ:T.get 13=some (.int .i64 5):=bQ
  simp(disch:=omega)only[↓aa,ab,simprocAttr,sa,bQ]
  refine ai _ _ _ _ ?_
  simp(disch:=omega)only[↓aa,ab,simprocAttr,sa,h4,hX]
  refine vK (fun H5 e5=>?_)
  have s5:aq X H5:=by rw[e5];exact od _ _ _
  have n5:H5.next=X.next+1:=by rw[e5];simp(disch:=omega)only[ay,aN,az,aF,aE,aB,aM,aO,aQ,aP,aL,aD,aH,au,sl]
  have l5:=s5.lo
  have b5:H5.objs.get X.next=some (.row (O6 (fq w)) none true):=by rw[e5,ay,cr rfl];rfl
  clear e5
  refine(O8 H5 (by omega) (fq w)).mono ?_
  rintro r H6 ⟨hr,s6⟩
  have n6:=s6.ag
  have l6:=s6.lo
  have b6:=s6.keeps (by omega) b5
  have IE:=s6.keeps (by omega) (s5.keeps (by omega) bRX)
  have IF:=s0X.trans (s5.trans s6)
  simp only[O6]at b6
  cases hk:gW (fq w)
  case false=>
   rw[hk]at hr
   replace hr:r= .tuple #[.int .u64 0,.int .i64 1]:=hr
   subst hr
   have hi:kp w=false:=by simp only[kp,hk];rfl
   simp(disch:=omega)only[↓aa,ab,simprocAttr,sa,h0,h2,IE,b6]
   rw[hi]
   exact⟨rfl,IF.setRow (by omega) _⟩
  rw[hk]at hr
  replace hr:r= .tuple #[.int .u64 (wH (fq w) 5:Nat),.int .i64 0]:=hr
  subst hr
  cases he:decide (((wH (fq w) 5:Nat):Int)=(w:Int))
  case false=>
   have hi:kp w=false:=by
    simp only[kp,hk]
    rw[wal]at he
    rw[wF trivial,wal]
    omega
   simp(disch:=omega)only[↓aa,ab,simprocAttr,sa,h0,h2,IE,b6,he]
   rw[hi]
   exact⟨rfl,IF.setRow (by omega) _⟩
  have hi:kp w=true:=by
   simp only[kp,hk]
   rw[waL]at he
   rw[wF trivial,waL]
   omega
  simp(disch:=omega)only[↓aa,ab,simprocAttr,sa,h0,h2,IE,b6,he]
  rw[hi]
  exact⟨rfl,IF.setRow (by omega) _⟩
end Go.AM
