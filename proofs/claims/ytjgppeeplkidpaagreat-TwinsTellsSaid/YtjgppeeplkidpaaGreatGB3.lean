/-
  Walks over letters of the functions that the law reaches; written small by a program of mine.
-/
import Derived.Test.YtjgppeeplkidpaaGreatGB0
import Derived.Test.YtjgppeeplkidpaaGreatAMc
set_option linter.unusedVariables false
set_option linter.unusedSectionVars false
namespace Go.AM
attribute [local instance] fnMaps
open Go Go.Proofs
set_option maxRecDepth 100000
set_option maxHeartbeats 1000000
set_option linter.unusedSimpArgs false
structure bu where
 kind:Int
 x:Int
 deriving DecidableEq
def cZ(v:bu):Value:= .agg #[.int .i64 v.kind,.int .i64 v.x]
def bu.Ok(v:bu):Prop:=v.kind=0∧v.x=0∨v.kind=1∧ -2305843009213693952≤v.x∧v.x≤2305843009213693951∨v.kind=2∧0≤v.x∧v.x≤1099511627776
instance(v:bu):Decidable v.Ok:=by unfold bu.Ok;infer_instance
def bu.word(v:bu):Nat:=(4*v.x%18446744073709551616+v.kind).toNat
theorem zar(x:Int):shiftOp .shl .u64 (IntKind.u64.wrap x) 2=some (.int .u64 (4*x%18446744073709551616)):=by
 rw[shift_shl _ _ _ (by decide)]
 have h:∀ y:Int,IntKind.u64.wrap y=y%18446744073709551616:=fun y=>rfl
 simp only[h]
 have:(2:Int)^(min (2:Int).toNat IntKind.u64.bits)=4:=by decide
 rw[this]
 congr 2
 omega
theorem Og{y:Int}(k:Nat)(h0:0≤y)(h1:y<18446744073709551616)(h4:y%4=0)(hk:k<4):intOp .or .u64 y (k:Int)=some (.int .u64 (y+k)):=by
 obtain⟨n,rfl⟩:=wbz h0
 rw[Oh (by omega) (by omega)]
 congr 2
 have:n=4*(n/4):=by omega
 rw[this,show 4*(n/4)=2^2*(n/4) by omega,←Nat.two_pow_add_eq_or_of_lt (by omega)]
 push_cast
 rfl
theorem zas(x:Int):intOp .or .u64 (4*x%18446744073709551616) 1=some (.int .u64 (4*x%18446744073709551616+1)):=Og 1 (by omega) (by omega) (by omega) (by omega)
theorem zat(x:Int):intOp .or .u64 (4*x%18446744073709551616) 2=some (.int .u64 (4*x%18446744073709551616+2)):=Og 2 (by omega) (by omega) (by omega) (by omega)
theorem and_3{w:Nat}(h:w<18446744073709551616):intOp .and .u64 (w:Int) 3=some (.int .u64 (w%4:Int)):=by
 have e:intOp .and .u64 (w:Int) ((3:Nat):Int)=_:=Oi (by omega) (by omega)
 rw[show(w&&&3:Nat)=w%4 from wcr w 2]at e
 exact e
theorem zau{w:Nat}(h:w<18446744073709551616):shiftOp .shr .u64 (w:Int) 2=some (.int .u64 (w/4:Int)):=by
 have e:shiftOp .shr .u64 (w:Int) ((2:Nat):Int)=_:=Oj (a:=w) (n:=2) (by omega) (by omega)
 exact e
theorem zav(a:Int):shiftOp .shr .i64 a 2=some (.int .i64 (a/4)):=by
 rw[shift_shr _ _ _ (by decide)]
 have:(2:Int)^(min (2:Int).toNat IntKind.i64.bits)=4:=by decide
 rw[this,wcw _ (by decide)]
theorem zaw(H:Heap)(an:H.lo≤H.next)(v:bu):af E (aK 290) [cZ v] H fun r H'=>r= .tuple #[.int .u64 ((if v.Ok then v.word else 0:Nat):Int),.int .i64 (if v.Ok then 0 else 1)]∧aq H H':=by
 refine aV Tryz.f290 ?_
 simp only[Tryz.f290]
 simp only[cZ]
 repeat'(first|(apply ak<;>intro)|simp(disch:=omega)only[↓aa,ab,simprocAttr,sa,zar,zas,zat, *])
 all_goals refine⟨?_,by exact aA⟩
 all_goals first
  |(have hk:v.Ok:=by unfold bu.Ok;omega
    have e:((v.word:Nat):Int)=4*v.x%18446744073709551616+v.kind:=by unfold bu.word;omega
    rw[wF hk,wF hk,e]
    simp[*];done)
  |(have hk:¬v.Ok:=by unfold bu.Ok;omega
    simp only[wI hk]
    rfl)
def bu.none:bu:=⟨0,0⟩
def dJ(w:Nat):Option bu:=if w%4=1 then some ⟨1,IntKind.i64.wrap w/4⟩else if w%4=2∧w/4≤1099511627776 then some ⟨2,w/4⟩else if w=0 then some .none else none
theorem yR(H:Heap)(an:H.lo≤H.next)(w:Nat)(hw:w<2^64):af E (aK 62) [.int .u64 w] H fun r H'=>r= .tuple #[cZ ((dJ w).getD .none),.int .i64 (if(dJ w).isSome then 0 else 3)]∧aq H H':=by
 have qA:w<18446744073709551616:=by omega
 refine aV Tryz.f62 ?_
 simp only[Tryz.f62]
 repeat'(first|(apply ak<;>intro)|simp(disch:=omega)only[↓aa,ab,simprocAttr,sa,and_3 qA,zau qA,zav, *])
 all_goals refine⟨?_,by exact aA⟩
 all_goals first
  |(have e:dJ w=some ⟨1,IntKind.i64.wrap w/4⟩:=by unfold dJ;rw[wF (by omega)]
    simp[e,cZ];done)
  |(have e:dJ w=some ⟨2,w/4⟩:=by unfold dJ;rw[wI (by omega),wF (by omega)]
    simp[e,cZ,wrap_i64, *];done)
  |(have e:dJ w=some .none:=by unfold dJ;rw[wI (by omega),wI (by omega),wF (by omega)]
    simp[e,cZ,bu.none];done)
  |(have e:dJ w=none:=by unfold dJ;rw[wI (by omega),wI (by omega),wI (by omega)]
    simp[e,cZ,bu.none];done)
def wV(n:Nat):Value:= .int .u64 n
structure Ar(H:Heap)(a rw g:Nat)(ws:List Nat):Prop where
 box:H.objs.get a=some (.row [.bool true,.slice (some ⟨rw,0,none⟩) ws.length ws.length] none true)
 row:H.objs.get rw=some (.row (ws.map wV) (some (g,1)) true)
 bK:H.grps.get g=some []
 la:a<H.next
 lw:rw<H.next
 lg:g<H.next
 ne:a≠rw
 u64:∀ w∈ws,w<2^64
 len:ws.length≤98304
theorem Ar.same{H H':Heap}{a rw g:Nat}{ws:List Nat}(h:Ar H a rw g ws)(s:Ko H H'):Ar H' a rw g ws:=
 ⟨s.keeps h.la h.box,s.keeps h.lw h.row,by rw[s.grps g h.lg,h.bK],wq h.la s.ag,wq h.lw s.ag,wq h.lg s.ag,h.ne,h.u64,h.len⟩
theorem Ol(H:Heap)(an:H.lo≤H.next){a rw g:Nat}{ws:List Nat}(h:Ar H a rw g ws):af E (aK 230) [ptr a 0] H fun r H'=>r= .bool false∧aq H H':=by
 have hb:=h.box
 refine aV Tryz.f230 ?_
 simp only[Tryz.f230]
 simp(disch:=omega)only[↓aa,ab,simprocAttr,sa,Om, *]
 all_goals exact xW
theorem Ar.at{ws:List Nat}{i:Int}(h0:0≤i)(h:i<ws.length):(ws.map wV)[i.toNat]? =some (.int .u64 (ws.getD i.toNat 0:Nat)):=by
 rw[war,wj (by omega),wav,wj (by omega)];rfl
def lC(n:Nat)(i:Int):Int:=if 0≤i∧i<n then 0 else 2
theorem On(H:Heap)(an:H.lo≤H.next){a rw g:Nat}{ws:List Nat}(h:Ar H a rw g ws)(i:Int):af E (aK 252) [ptr a 0,.int .i64 i] H fun r H'=>r= .int .i64 (lC ws.length i)∧aq H H':=by
 have hb:=h.box
 have la:=h.la
 have lw:=h.lw
 have hl:=h.len
 refine aV Tryz.f252 ?_
 simp only[Tryz.f252]
 repeat'(first|(apply ak<;>intro)|apply bw|((with_reducible show af _ _ _ _ _);refine ao H (Ol _ ah (by first|exact h|exact h.same (by assumption))) ?_;intro H2 k2 l2 n2 g2 q2;try simp(disch:=omega)only[sm,sl]at l2 n2 g2 q2)|simp(disch:=omega)only[↓aa,ab,simprocAttr,sa, *])
 all_goals(first|(with_reducible exact aA)|((with_reducible show _∧_);exact⟨by first|rfl|(simp[lC, *]<;>omega),aA⟩))
theorem zax(H:Heap)(an:H.lo≤H.next){a rw g:Nat}{ws:List Nat}(h:Ar H a rw g ws):af E (aK 216) [ptr a 0] H fun r H'=>r= .int .i64 ws.length∧aq H H':=by
 have hb:=h.box
 have la:=h.la
 refine aV Tryz.f216 ?_
 simp only[Tryz.f216]
 repeat'(first|((with_reducible show af _ _ _ _ _);refine ao H (Ol _ ah (by first|exact h|exact h.same (by assumption))) ?_;intro H2 k2 l2 n2 g2 q2;try simp(disch:=omega)only[sm,sl]at l2 n2 g2 q2)|simp(disch:=omega)only[↓aa,ab,simprocAttr,sa, *])
 all_goals exact xW
theorem Ep(H:Heap)(an:H.lo≤H.next){a rw g:Nat}{ws:List Nat}(h:Ar H a rw g ws)(i:Int):af E (aK 215) [ptr a 0,.int .i64 i] H fun r H'=>r= .tuple #[.int .u64 (if lC ws.length i=0 then ws.getD i.toNat 0 else 0:Nat),.int .i64 (lC ws.length i)]∧aq H H':=by
 have hb:=h.box
 have hr:=h.row
 have la:=h.la
 have lw:=h.lw
 refine aV Tryz.f215 ?_
 simp only[Tryz.f215]
 by_cases hp:0≤i∧i<ws.length
 ·have hP:lC ws.length i=0:=wF hp
  have hc:=Ar.at hp.1 hp.2
  repeat'(first|((with_reducible show af _ _ _ _ _);refine ao H (On _ ah (by first|exact h|exact h.same (by assumption)) i) ?_;intro H2 k2 l2 n2 g2 q2;try simp(disch:=omega)only[sm,sl]at l2 n2 g2 q2)|simp(disch:=omega)only[↓aa,ab,simprocAttr,sa, *])
  all_goals exact xW
 ·have hP:lC ws.length i=2:=wI hp
  repeat'(first|((with_reducible show af _ _ _ _ _);refine ao H (On _ ah (by first|exact h|exact h.same (by assumption)) i) ?_;intro H2 k2 l2 n2 g2 q2;try simp(disch:=omega)only[sm,sl]at l2 n2 g2 q2)|simp(disch:=omega)only[↓aa,ab,simprocAttr,sa, *])
  all_goals exact xW
structure Bp(H:Heap)(b:Nat)(x:Span)(u:Int):Prop where
 box:H.objs.get b=some (.row [.bool true,.int .i64 x.ae,.int .i64 x.size,.int .i64 u] none true)
 lb:b<H.next
 Mq:bt x
 u0:0≤u
 u1:u≤x.size
def da(ws:List Nat)(i:Int):Nat:=ws.getD i.toNat 0
def cy(ws:List Nat)(i:Int):Int:=if lC ws.length i=0 then(if kp (da ws i)then(if ws.length-i<ct (fq (da ws i))then 2 else 0)else 3)else 2
def aU(ws:List Nat)(i:Int):Hd:=if cy ws i=0 then fq (da ws i)else gI
theorem Ar.lt{H:Heap}{a rw g:Nat}{ws:List Nat}(h:Ar H a rw g ws)(i:Int):da ws i<2^64:=by
 unfold da
 rw[wav]
 cases hc:ws[i.toNat]? with
 |none=>simp
 |some w=>exact h.u64 w (wag hc)
theorem yS{h:Hd}:0≤ct h∧ct h≤8193:=by
 unfold ct
 split
 ·rename_i hk
  have:=ku hk
  omega
 ·omega
theorem oM(H:Heap)(an:H.lo≤H.next){a rw g:Nat}{ws:List Nat}(h:Ar H a rw g ws)(i:Int)(hi: -9223372036854775808≤i∧i≤9223372036854775807):af E (aK 168) [ptr a 0,.int .i64 i] H fun r H'=>r= .tuple #[bO (aU ws i),.int .i64 (cy ws i)]∧aq H H':=by
 have hw:=h.lt i
 have hl:=h.len
 have hs:=yS (h:=fq (da ws i))
 refine aV Tryz.f168 ?_
 simp only[Tryz.f168]
 by_cases hp:lC ws.length i=0
 ·have hq:0≤i∧i<ws.length:=by unfold lC at hp;split at hp<;>omega
  have hg:ws.getD i.toNat 0=da ws i:=rfl
  cases hd:kp (da ws i)with
  |false=>
   have e:cy ws i=3:=by unfold cy;rw[wF hp,wI (by rw[hd];simp)]
   have e2:aU ws i=gI:=by unfold aU;rw[wI (by omega)]
   repeat'(first|((with_reducible show af _ _ _ _ _);(first|refine ao H (Ep _ ah (by first|exact h|exact h.same aj) i) ?_|refine ao H (Ib _ ah (da ws i) hw) ?_);intro H2 k2 l2 n2 g2 q2;try simp(disch:=omega)only[sm,sl]at l2 n2 g2 q2)|simp(disch:=omega)only[↓aa,ab,simprocAttr,sa,bO,gI, *])
   exact aA
  |true=>
   repeat'(first|(apply ak<;>intro)|((with_reducible show af _ _ _ _ _);(first|refine ao H (Ep _ ah (by first|exact h|exact h.same aj) i) ?_|refine ao H (Ib _ ah (da ws i) hw) ?_|refine ao H (qP _ ah (fq (da ws i))) ?_|refine ao H (zax _ ah (by first|exact h|exact h.same aj)) ?_);intro H2 k2 l2 n2 g2 q2;try simp(disch:=omega)only[sm,sl]at l2 n2 g2 q2)|simp(disch:=omega)only[↓aa,ab,simprocAttr,sa,bO, *])
   all_goals(with_reducible show _∧_)
   all_goals first
    |(have e:cy ws i=2:=by unfold cy;rw[wF hp,wF hd,wF (by omega)]
      have e2:aU ws i=gI:=by unfold aU;rw[wI (by omega)]
      exact⟨by rw[e,e2];rfl,by exact aA⟩)
    |(have e:cy ws i=0:=by unfold cy;rw[wF hp,wF hd,wI (by omega)]
      have e2:aU ws i=fq (da ws i):=by unfold aU;rw[wF e]
      exact⟨by rw[e,e2],by exact aA⟩)
 ·have qC:lC ws.length i=2:=by unfold lC at hp ⊢;split at hp<;>simp_all
  have e:cy ws i=2:=by unfold cy;rw[wI hp]
  have e2:aU ws i=gI:=by unfold aU;rw[wI (by omega)]
  repeat'(first|((with_reducible show af _ _ _ _ _);refine ao H (Ep _ ah (by first|exact h|exact h.same aj) i) ?_;intro H2 k2 l2 n2 g2 q2;try simp(disch:=omega)only[sm,sl]at l2 n2 g2 q2)|simp(disch:=omega)only[↓aa,ab,simprocAttr,sa,bO,gI, *])
  exact aA
theorem Oo{ws:List Nat}{i:Int}(h:cy ws i=0):lC ws.length i=0:=by
 unfold cy at h
 split at h
 ·assumption
 ·omega
def iH(ws:List Nat)(i k:Int)(dY:Bool):Int:=if cy ws i=0 then(if 0≤k∧k<(if dY then(aU ws i).bC else(aU ws i).fields)then 0 else 1)else cy ws i
def kv(ws:List Nat)(i k:Int)(dY:Bool):Int:=if iH ws i k dY=0 then i+1+(if dY then(aU ws i).fields else 0)+k else 0
theorem kx{ws:List Nat}{i:Int}(h:cy ws i=0):0≤i∧i<ws.length∧gW (aU ws i)=true∧i+ct (aU ws i)≤ws.length∧aU ws i=fq (da ws i):=by
 have hp:=Oo h
 have hq:0≤i∧i<ws.length:=by unfold lC at hp;split at hp<;>omega
 have e2:aU ws i=fq (da ws i):=by unfold aU;rw[wF h]
 unfold cy at h
 rw[wF hp]at h
 split at h
 ·rename_i hd
  split at h
  ·omega
  ·refine⟨hq.1,hq.2,?_,by rw[e2];omega,e2⟩
   rw[e2]
   unfold kp at hd
   split at hd
   ·assumption
   ·cases hd
 ·omega
theorem Oq(H:Heap)(an:H.lo≤H.next){a rw g:Nat}{ws:List Nat}(h:Ar H a rw g ws)(i:Int)(hi: -9223372036854775808≤i∧i≤9223372036854775807)(k:Int)(dY:Bool):af E (aK 310) [ptr a 0,.int .i64 i,.int .i64 k,.bool dY] H fun r H'=>r= .tuple #[.int .i64 (kv ws i k dY),.int .i64 (iH ws i k dY)]∧aq H H':=by
 have hl:=h.len
 refine aV Tryz.f310 ?_
 simp only[Tryz.f310]
 by_cases hp:cy ws i=0
 ·obtain⟨h1,h2,h3,h4,h5⟩:=kx hp
  have h6:=ku h3
  rw[h5]at h6
  cases dY
  all_goals(repeat'(first|(apply ak<;>intro)|apply bw|refine aw 4 [Fx,Fx,Fx,Fx,Fx,Fx] ?_|refine aw 6 [Fx,Fx,Fx,Fx,Fx,Fx,Fx,Fx] ?_|((with_reducible show af _ _ _ _ _);refine ao H (oM _ ah (by first|exact h|exact h.same aj) i hi) ?_;intro H2 k2 l2 n2 g2 q2;try simp(disch:=omega)only[sm,sl]at l2 n2 g2 q2)|simp(disch:=omega)only[↓aa,ab,simprocAttr,sa,bO, *]))
  all_goals(with_reducible show _∧_)
  all_goals refine⟨?_,by exact aA⟩
  all_goals first
   |(have e:iH ws i k false=1:=by unfold iH;rw[wF hp,wI (by simp[h5];omega)]
     rw[kv,e];rfl)
   |(have e:iH ws i k false=0:=by unfold iH;rw[wF hp,wF (by simp[h5];omega)]
     rw[kv,e];simp)
   |(have e:iH ws i k true=1:=by unfold iH;rw[wF hp,wI (by simp[h5];omega)]
     rw[kv,e];rfl)
   |(have e:iH ws i k true=0:=by unfold iH;rw[wF hp,wF (by simp[h5];omega)]
     rw[kv,e];simp[h5])
 ·have e:iH ws i k dY=cy ws i:=wI hp
  have e2:kv ws i k dY=0:=wI (by omega)
  repeat'(first|((with_reducible show af _ _ _ _ _);refine ao H (oM _ ah (by first|exact h|exact h.same aj) i hi) ?_;intro H2 k2 l2 n2 g2 q2;try simp(disch:=omega)only[sm,sl]at l2 n2 g2 q2)|simp(disch:=omega)only[↓aa,ab,simprocAttr,sa,bO, *])
  exact aA
def jl(ws:List Nat)(i k:Int)(dY:Bool):Nat:=if iH ws i k dY=0 then da ws (kv ws i k dY)else 0
theorem zay{ws:List Nat}{i k:Int}{dY:Bool}(h:iH ws i k dY=0):0≤kv ws i k dY∧kv ws i k dY<ws.length∧cy ws i=0∧i<kv ws i k dY∧kv ws i k dY<i+ct (aU ws i):=by
 have h0:=h
 unfold iH at h
 split at h
 ·rename_i hp
  obtain⟨h1,h2,h3,h4,_⟩:=kx hp
  have h6:=ku h3
  have hs:ct (aU ws i)=1+(aU ws i).fields+(aU ws i).bC:=by unfold ct;rw[wF h3]
  unfold kv
  rw[wF h0]
  cases dY<;>simp at h⊢ <;>omega
 ·omega
theorem zaz(H:Heap)(an:H.lo≤H.next){a rw g:Nat}{ws:List Nat}(h:Ar H a rw g ws)(i:Int)(hi: -9223372036854775808≤i∧i≤9223372036854775807)(k:Int)(dY:Bool):af E (aK 288) [ptr a 0,.int .i64 i,.int .i64 k,.bool dY] H fun r H'=>r= .tuple #[.int .u64 (jl ws i k dY),.int .i64 (iH ws i k dY)]∧aq H H':=by
 refine aV Tryz.f288 ?_
 simp only[Tryz.f288]
 by_cases hp:iH ws i k dY=0
 ·obtain⟨h1,h2,_⟩:=zay hp
  have e:lC ws.length (kv ws i k dY)=0:=wF ⟨h1,h2⟩
  have e2:jl ws i k dY=ws.getD (kv ws i k dY).toNat 0:=by unfold jl;rw[wF hp];rfl
  repeat'(first|((with_reducible show af _ _ _ _ _);(first|refine ao H (Oq _ ah (by first|exact h|exact h.same aj) i hi k dY) ?_|refine ao H (Ep _ ah (by first|exact h|exact h.same aj) (kv ws i k dY)) ?_);intro H2 k2 l2 n2 g2 q2;try simp(disch:=omega)only[sm,sl]at l2 n2 g2 q2)|simp(disch:=omega)only[↓aa,ab,simprocAttr,sa, *])
  exact aA
 ·have e2:jl ws i k dY=0:=wI hp
  repeat'(first|((with_reducible show af _ _ _ _ _);refine ao H (Oq _ ah (by first|exact h|exact h.same aj) i hi k dY) ?_;intro H2 k2 l2 n2 g2 q2;try simp(disch:=omega)only[sm,sl]at l2 n2 g2 q2)|simp(disch:=omega)only[↓aa,ab,simprocAttr,sa,wcg, *])
  exact aA
theorem Ot(H:Heap)(an:H.lo≤H.next){a rw g:Nat}{ws:List Nat}(h:Ar H a rw g ws)(i:Int)(hi: -9223372036854775808≤i∧i≤9223372036854775807)(k:Int):af E (aK 243) [ptr a 0,.int .i64 i,.int .i64 k] H fun r H'=>r= .tuple #[.int .u64 (jl ws i k false),.int .i64 (iH ws i k false)]∧aq H H':=by
 refine aV Tryz.f243 ?_
 simp only[Tryz.f243]
 repeat'(first|((with_reducible show af _ _ _ _ _);refine ao H (zaz _ ah (by first|exact h|exact h.same aj) i hi k false) ?_;intro H2 k2 l2 n2 g2 q2;try simp(disch:=omega)only[sm,sl]at l2 n2 g2 q2)|simp(disch:=omega)only[↓aa,ab,simprocAttr,sa, *])
 exact aA
def SLr{α:Type}(R:Heap→List Value→α→Prop)(z:Nat)(H:Heap)(v:Value)(l:List α):Prop:=SL R z H v l∧oe H v
def RW:Heap→List Value→Nat→Prop:=fun _ part n=>part=[wV n]
theorem RW.mono:oj RW:=fun _ _ _ _ _ h=>h
theorem Ic{H:Heap}{cs:List Value}{ws:List Nat}(h:cY RW 1 H cs ws):cs=ws.map wV:=by
 refine waR fun i=>?_
 rw[war]
 by_cases hi:i<ws.length
 ·obtain⟨part,h1,h2⟩:=h.2 i ws[i] (by simp[hi])
  rw[h2,waY]at h1
  rw[Oc h1,wj hi];rfl
 ·have:=h.1
  rw[wak (by omega),wak (by omega)];rfl
theorem vR{z b k r:Nat}{H:Heap}{new:List Value}{t:Bool}(hr:H.objs.get r=some (.row [] none t))(hk:k≠0)(hg:eu z b k=true):appendT z b H (.slice (some ⟨r,0,none⟩) 0 0) k new=some (.slice (some ⟨H.next,0,none⟩) k k,H.dd z new):=by
 have h1:Nat.ble k 0=false:=waK.2 fun hh=>by have:=wan hh;omega
 have h2:cut ([]:List Value) 0 (0*z)=some []:=by rw[du];simp
 simp only[appendT,wau,h1,wS,hg,wa7,hr,h2,wo,wL]
theorem Er(d:Nat)(a:Addr)(n c n' c':Nat):eqV E (d+1) 24 (.slice (some a) n c) (.slice none n' c')=some false:=kq
theorem Ou(H:Heap)(an:H.lo≤H.next)(v:Value)(ws:List Nat)(hv:SLr RW 1 H v ws)(h0:ws≠[])(hl:ws.length≤100000):af E (aK 64) [v] H fun r H'=>∃ rw,r= .slice (some ⟨rw,0,none⟩) ws.length ws.length∧H.next≤rw∧rw<H'.next∧H'.objs.get rw=some (.row (ws.map wV) (some (rw,1)) true)∧H'.grps.get rw=some []∧aq H H':=by
 obtain⟨hs,hr⟩:=hv
 have sN:aq H (H.newRow []):=eO _
 obtain⟨a,c,cs,rfl,eJ,om⟩:=(hs.mono RW.mono sN).vJ (hr.same sN)
 rw[waY]at eJ
 have eD:=Ic om
 subst eD
 have aX:ws.length≠0:=by cases ws<;>simp_all
 have lU:(H.newRow []).objs.get H.next=some (.row [] none true):=by simp(disch:=omega)only[ay,aN,az,aF,aE,aB,aM,aO,aQ,aP,aL,aD,aH,au,sl]
 refine aV Tryz.f64 ?_
 simp only[Tryz.f64]
 cases a with
 |none=>
  obtain⟨a',c',e,_,h⟩:=hs
  simp only[waq]at e
  obtain⟨r,o,_,_,_,_,h0,_⟩:=h 0 ws[0] (by simp[wj (show 0<ws.length by omega)])
  rw[h0]at e
  cases e.1
 |some a=>
  have cK:=vR (z:=1) (b:=8) (k:=ws.length) (new:=ws.map wV) lU aX (by simp[eu,kV,cw];omega)
  simp(disch:=omega)only[↓aa,ab,simprocAttr,sa,Er,cw,dW, *]
  have g:=uk (b:=H.next) (H:=H.newRow []) (by simp(disch:=omega)only[ay,aN,az,aF,aE,aB,aM,aO,aQ,aP,aL,aD,aH,au,sl];omega) 1 (ws.map wV)
  refine⟨H.next+1,rfl,by omega,by rw[gH];simp(disch:=omega)only[ay,aN,az,aF,aE,aB,aM,aO,aQ,aP,aL,aD,aH,au,sl];omega,?_,?_,g.same sN (wy _)⟩
  ·rw[jj,cr (by simp(disch:=omega)only[ay,aN,az,aF,aE,aB,aM,aO,aQ,aP,aL,aD,aH,au,sl])]
   simp(disch:=omega)only[ay,aN,az,aF,aE,aB,aM,aO,aQ,aP,aL,aD,aH,au,sl]
  ·rw[lz,cr (by simp(disch:=omega)only[ay,aN,az,aF,aE,aB,aM,aO,aQ,aP,aL,aD,aH,au,sl])];rfl
theorem zaA(H:Heap)(an:H.lo≤H.next)(v:Value)(ws:List Nat)(hv:SLr RW 1 H v ws)(h0:ws≠[])(hl:ws.length≤98304)(hu:∀ w∈ws,w<2^64):af E (aK 160) [v] H fun r H'=>∃ a rw,r= .tuple #[ptr a 0,.int .i64 0]∧Ar H' a rw rw ws∧H.next≤a∧H.next≤rw∧aq H H':=by
 have hc:=Ou H an v ws hv h0 (by omega)
 obtain⟨⟨a,c,rfl,_,_⟩,_⟩:=hv
 refine aV Tryz.f160 ?_
 simp only[Tryz.f160]
 repeat'(first|(apply ak<;>intro)|simp(disch:=omega)only[↓aa,ab,simprocAttr,sa, *])
 all_goals try omega
 refine hc.mono ?_
 rintro r H2 ⟨rw,rfl,h1,h2,h3,h4,s2⟩
 have n2:=s2.ag
 simp(disch:=omega)only[↓aa,ab,simprocAttr,sa, *]
 refine⟨H2.next,rw,rfl,⟨?_,?_,?_,by simp(disch:=omega)only[ay,aN,az,aF,aE,aB,aM,aO,aQ,aP,aL,aD,aH,au,sl];omega,by simp(disch:=omega)only[ay,aN,az,aF,aE,aB,aM,aO,aQ,aP,aL,aD,aH,au,sl];omega,by simp(disch:=omega)only[ay,aN,az,aF,aE,aB,aM,aO,aQ,aP,aL,aD,aH,au,sl];omega,by omega,hu,hl⟩,n2,h1,s2.newRow _⟩
 ·simp(disch:=omega)only[ay,aN,az,aF,aE,aB,aM,aO,aQ,aP,aL,aD,aH,au,sl]
 ·simp(disch:=omega)only[ay,aN,az,aF,aE,aB,aM,aO,aQ,aP,aL,aD,aH,au,sl];exact h3
 ·simp(disch:=omega)only[ay,aN,az,aF,aE,aB,aM,aO,aQ,aP,aL,aD,aH,au,sl];exact h4
theorem Es{ws:List Nat}{i:Nat}{x:Nat}(h:ws[i]? =some x):cut (ws.map wV) (i*1) 1=some [wV x]:=by
 have hi:=(wD.1 h).1
 rw[du,wF (by rw[wO];omega),waY,List.take_one,List.head?_drop,war,h]
 rfl
structure mf where
 ae:Int
 h:Hd
 e:Int
 last:Bool
def BD(s:mf):Value:= .agg #[.int .i64 s.ae,.int .i64 s.h.kind,.int .i64 s.h.fields,.int .i64 s.h.bC,.bool s.h.mark,.int .i64 s.h.fu,.int .i64 s.e,.bool s.last]
def ik(ws:List Nat)(top ae:Int):Int:=if cy ws ae=0∧top-ae<ct (aU ws ae)then 2 else cy ws ae
def dF(ws:List Nat)(top:Int):Nat→Int→List mf
 |0,ae=>[⟨ae,gI,0,true⟩]
 |n+1,ae=>if ae<top then(if ik ws top ae=0 then⟨ae,aU ws ae,0,false⟩::dF ws top n (ae+ct (aU ws ae))else[⟨ae,gI,ik ws top ae,true⟩])else[⟨ae,gI,0,true⟩]
theorem vX{ws:List Nat}{p:Int}(h:cy ws p=0):1≤ct (aU ws p):=by
 obtain⟨_,_,h3,_,_⟩:=kx h
 have:=ku h3
 unfold ct
 rw[wF h3]
 omega
theorem qU{ws:List Nat}{top p:Int}(h:ik ws top p=0):cy ws p=0∧ct (aU ws p)≤top-p:=by
 unfold ik at h
 split at h
 ·omega
 ·rename_i hn;exact⟨h,by omega⟩
theorem Iv{ws:List Nat}{top:Int}:∀ (n m:Nat) (p:Int),(top-p).toNat≤n→(top-p).toNat≤m→dF ws top n p=dF ws top m p
 |0,0,_,_,_=>rfl
 |0,m+1,p,h,_=>by rw[dF,dF,wI (by omega)]
 |n+1,0,p,_,h=>by rw[dF,dF,wI (by omega)]
 |n+1,m+1,p,h,h'=>by
  rw[dF,dF]
  by_cases h1:p<top
  ·rw[wF h1,wF h1]
   by_cases h2:ik ws top p=0
   ·have:=vX (qU h2).1
    rw[wF h2,wF h2,Iv n m _ (by omega) (by omega)]
   ·rw[wI h2,wI h2]
  ·rw[wI h1,wI h1]
theorem Ar.base{H X:Heap}{ex:List Nat}{a rw g:Nat}{ws:List Nat}(h:Ar H a rw g ws)(b:fV H ex X)(ha:a∉ex)(hr:rw∉ex):Ar X a rw g ws:=
 ⟨(b.objs a h.la ha).trans h.box,(b.objs rw h.lw hr).trans h.row,(b.grps g h.lg).trans h.bK,by have:=h.la;have:=b.ag;omega,by have:=h.lw;have:=b.ag;omega,by have:=h.lg;have:=b.ag;omega,h.ne,h.u64,h.len⟩
theorem uu{α:Type}{enc:α→Value}{B:Nat}{OT:List Nat}{y:Value}{I:List α→Heap→Prop}{F:Heap→Prop}(hI:∀ rest X X',I rest X→Pd B X X'→I rest X')
  (hy:∀ v rest X,I (v::rest) X→af E y [enc v] X fun r X'=>(r= .bool true∧I rest X'∧Yd B OT X X')∨(r= .bool false∧F X')) {v:α} {rest:List α} {X Xc:Heap} {K:Value→Heap→Prop} (hi:I (v::rest) X) (s:aq X Xc) (hn:B≤X.next)
  (kt:∀ X',I rest X'→Yd B OT Xc X'→K (.bool true) X') (kf:∀ X',F X'→K (.bool false) X'):af E y [enc v] Xc K:=by
 refine(hy v rest Xc (hI _ _ _ hi (s.pd hn))).mono ?_
 rintro r X' (⟨rfl,h1,h2⟩|⟨rfl,h⟩)
 ·exact kt X' h1 h2
 ·exact kf X' h
theorem zbq:E.fn.get 309=some Tryz.f309:=kq
theorem OU(H:Heap)(ex:List Nat)(an:H.lo≤H.next)(bS bT bA a rw g:Nat)(s:Span)(top:Int)(ws:List Nat)(hS:H.objs.get bS=some (.row [.int .i64 s.ae,.int .i64 s.size] none true))(hT:H.objs.get bT=some (.row [.int .i64 top] none true))(hA:H.objs.get bA=some (.row [ptr a 0] none true))(lD:Ar H a rw g ws)
  (lS:bS<H.next) (lT:bT<H.next) (lA:bA<H.next) (nS:bS∉ex) (nT:bT∉ex) (nA:bA∉ex) (na:a∉ex) (nr:rw∉ex) (hex:∀ x:Nat,x∈ex→x<H.next) (hs:0≤s.ae∧s.ae≤1099511627776) (ht:s.ae≤top∧top≤1099511627776)
  (y:Value) (I:List mf→Heap→Prop) (F:Heap→Prop) (H1:Heap) (sH:aq H H1) (jJ:H1.next=H.next+2) (hI:∀ rest X X',I rest X→Pd (H.next+2) X X'→I rest X') (hB:∀ rest X,I rest X→fV H ex X)
  (hy:∀ v rest X,I (v::rest) X→af E y [BD v] X fun r X'=>(r= .bool true∧I rest X'∧Yd (H.next+2) ((H.next+1)::ex) X X')∨(r= .bool false∧F X'))
  (h0:I (dF ws top (top-s.ae).toNat s.ae) H1):af E (.func (.func 309) #[] #[ptr bS 0,ptr bT 0,ptr bA 0]) [y] H1 fun _ X=>I [] X∨F X:=by
 have yp:=hB _ _ h0
 have e1:=(yp.objs bS lS nS).trans hS
 refine yN kq zbq rfl rfl ?_
 simp only[Tryz.f309]
 simp(disch:=omega)only[↓aa,ab,simprocAttr,sa,wL,wat, *]
 refine bL kq (fun nn T X=>∃ p:Int,nn=(top-p).toNat∧T.get 5=some (.int .i64 p)∧T.get 0=some y∧T.get 2=some (ptr bT 0)∧T.get 3=some (ptr bA 0)∧s.ae≤p∧p≤1099511627776∧I (dF ws top (top-p).toNat p) X) ⟨_,s.ae,rfl,by simp(disch:=omega)only[↓aa,ab,simprocAttr,sa,wL,wat],by simp(disch:=omega)only[↓aa,ab,simprocAttr,sa,wL,wat],by simp(disch:=omega)only[↓aa,ab,simprocAttr,sa,wL,wat],by simp(disch:=omega)only[↓aa,ab,simprocAttr,sa,wL,wat],by omega,by omega,h0⟩ ?_
 rintro nn T X ⟨p,rfl,t5,t0,t2,t3,hp,qC,hi⟩ Qs hQ aG ai
 have rb:=hB _ _ hi
 have l1:=rb.lo
 have n1:=rb.ag
 have fT:=(rb.objs bT lT nT).trans hT
 have fA:=(rb.objs bA lA nA).trans hA
 have h:=lD.base rb na nr
 by_cases hlt:p<top
 ·have hn:(top-p).toNat=(top-(p+1)).toNat+1:=by omega
  rw[hn,dF,wF hlt]at hi
  have bf:=yS (h:=aU ws p)
  simp(disch:=omega)only[↓aa,ab,simprocAttr,sa, *]
  refine ao X (oM _ ah h p (by omega)) ?_
  intro Ha ka la na ga qa
  repeat'(first|(apply ak<;>intro)|refine aw 3 [Fx,Fx,Fx,Fx,Tx,Fx,Fx,Fx,Fx,Fx] ?_|((with_reducible show af _ _ _ _ _);refine ao X (qP _ ah (aU ws p)) ?_;intro H2 k2 l2 n2 g2 q2;try simp(disch:=omega)only[sm,sl]at l2 n2 g2 q2)|simp(disch:=omega)only[↓aa,ab,simprocAttr,sa,bO, *])
  ·have he:ik ws top p=2:=by unfold ik;rw[wF ⟨by assumption,by omega⟩]
   rw[wI (by omega),he]at hi
   refine uu hI hy hi aA n1 ?_ ?_
   ·intro X' h1 h2
    repeat'(first|((with_reducible show Qs _ _ _ _ _);refine aG _ _ _ ?_)|simp(disch:=omega)only[↓aa,ab,simprocAttr,sa, *])
    exact .inl trivial
   ·intro X' h1
    repeat'(first|((with_reducible show Qs _ _ _ _ _);refine aG _ _ _ ?_)|simp(disch:=omega)only[↓aa,ab,simprocAttr,sa, *])
    exact .inr trivial
  ·have he:ik ws top p=0:=by unfold ik;rw[wI (by omega)];assumption
   rw[wF he]at hi
   refine uu hI hy hi aA n1 ?_ ?_
   ·intro X' h1 h2
    have nb:Ha.next∉(H.next+1)::ex:=fun hh=>by
     rcases wad.1 hh with hh|hh
     ·omega
     ·have:=hex _ hh;omega
    have eb:=h2.alone Ha.next _ true (by simp(disch:=omega)only[ay,aN,az,aF,aE,aB,aM,aO,aQ,aP,aL,aD,aH,au,sl];omega) nb (by simp(disch:=omega)only[ay,aN,az,aF,aE,aB,aM,aO,aQ,aP,aL,aD,aH,au,sl,g2];rfl)
    have l3:=h2.lo;have n3:=h2.ag
    simp only[aD,aH]at l3 n3
    clear h2
    repeat'(first|((with_reducible show af _ _ _ _ _);refine CS (H0:=X') aj (qP _ ah (aU ws p)) ?_;intro H2 k2 l2 n2 g2 q2;try simp(disch:=omega)only[sm,sl]at l2 n2 g2 q2)|simp(disch:=omega)only[↓aa,ab,simprocAttr,sa,bO, *])
    have pB:=vX (qU he).1
    have hs2:=(qU he).2
    rw[Iv _ (top-(p+ct (aU ws p))).toNat _ (by omega) (wy _)]at h1
    refine hQ _ _ _ ?_ ⟨p+ct (aU ws p),rfl,?_,?_,?_,?_,by omega,by omega,?_⟩
    ·omega
    iterate 4 exact aJ
    exact hI _ _ _ h1 (aq.pd aA (by omega))
   ·intro X' h1
    repeat'(first|((with_reducible show Qs _ _ _ _ _);refine aG _ _ _ ?_)|simp(disch:=omega)only[↓aa,ab,simprocAttr,sa, *])
    exact .inr trivial
  ·have he:ik ws top p=cy ws p:=by unfold ik;rw[wI (by omega)]
   rw[wI (by rw[he];assumption),he]at hi
   refine uu hI hy hi aA n1 ?_ ?_
   ·intro X' h1 h2
    repeat'(first|((with_reducible show Qs _ _ _ _ _);refine aG _ _ _ ?_)|simp(disch:=omega)only[↓aa,ab,simprocAttr,sa, *])
    exact .inl trivial
   ·intro X' h1
    repeat'(first|((with_reducible show Qs _ _ _ _ _);refine aG _ _ _ ?_)|simp(disch:=omega)only[↓aa,ab,simprocAttr,sa, *])
    exact .inr trivial
 ·repeat'(first|((with_reducible show Qs _ _ _ _ _);refine ai _ _ _ _ ?_)|simp(disch:=omega)only[↓aa,ab,simprocAttr,sa, *])
  rw[show(top-p).toNat=0 by omega,dF]at hi
  refine uu hI hy hi aA n1 ?_ ?_
  ·intro X' h1 h2
   simp(disch:=omega)only[↓aa,ab,simprocAttr,sa, *]
   exact .inl trivial
  ·intro X' h1
   simp(disch:=omega)only[↓aa,ab,simprocAttr,sa, *]
   exact .inr trivial
end Go.AM
