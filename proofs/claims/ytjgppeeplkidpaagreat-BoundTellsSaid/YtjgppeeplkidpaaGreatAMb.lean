/-
  Walks over letters of the functions that the law reaches; written small by a program of mine.
-/
import Derived.Test.YtjgppeeplkidpaaGreatAMa
import Derived.Laws.BytesString
import Derived.Laws.Externs
import Derived.KernelRfl
import Derived.OrdersIn
set_option linter.unusedSimpArgs false
set_option linter.unusedVariables false
set_option linter.unusedSectionVars false
namespace Go.AM
section
variable[Maps]{B lo0:Nat}{m:Match}{H:Heap}{w:World}{E:Env}
def UpTo(P:Program)(R:Value→World→Prop):Result Next→Prop
 | .ok (.value v) w'=>R v w'
 | .ok .skip w'=>R undef w'
 | .ok (.enter f args) w'=>CallsIn Fence.wide 0 P f args w' fun e fE=>∃ v,e= .returned v∧R v fE
 | .ok (.round l f tmps assign body) w'=>RoundIn Fence.wide 0 P l f tmps assign body w' fun e fE=>∃ v,e= .returned v∧R v fE
 |_=>False
end
section
variable{B lo0:Nat}{m:Match}{w:World}{P:Program}
theorem UpTo.mono{P:Program}{R R':Value→World→Prop}{r:Result Next}(h:UpTo P R r)(hr:∀ v w',R v w'→R' v w'):UpTo P R' r:=by
 unfold UpTo at*
 split at h<;>first
  |exact hr _ _ h
  |exact h.mono fun e fE ⟨v,he,hv⟩=>⟨v,he,hr _ _ hv⟩
  |exact h.elim
end
section
variable[Maps]{B lo0:Nat}{m:Match}{H:Heap}{w:World}{E:Env}
def fj(ro:Option Nat):Fence:={Fence.wide with round:=ro}
end
section
variable{B lo0:Nat}{m:Match}{w:World}{P:Program}
theorem UpTo.uponIn{P:Program}{R:Value→World→Prop}{r:Result Next}{o:Oper}{a:Act}{next:Act→World→Prop}{Q:Exit→Act→World→Prop}{ro:Option Nat}(h:UpTo P R r)
  (hn:∀ v w',R v w'→next (a.put o.dst v) w'):o.uponIn (fj ro) 0 P a next Q r:=by
 unfold UpTo at h
 split at h
 ·exact hn _ _ h
 ·exact hn _ _ h
 ·rw[Oper.uponIn_enter]
  refine⟨fun h=>by simp[fj,Fence.wide]at h,?_⟩
  have h2:CallsIn (fj ro) 0 P _ _ _ _:=h
  exact h2.mono fun e fE ⟨v,he,hv⟩=>by subst he;exact hn _ _ hv
 ·rw[Oper.uponIn_round]
  refine⟨fun h=>by simp[fj,Fence.wide]at h,?_⟩
  have h2:RoundIn (fj ro) 0 P _ _ _ _ _ _ _:=h
  exact h2.mono fun e fE ⟨v,he,hv⟩=>by subst he;exact hn _ _ hv
 ·exact h.elim
end
section
variable[Maps]{B lo0:Nat}{m:Match}{H:Heap}{w:World}{E:Env}
def qm(B lo0:Nat)(E:Env)(call:dc):Prop:=∀ f args H v H',call f args H=some (v,H')→∀ m w f' (bF:Array Value),VRel m f f'→LRel m args bF.toList→Rel B lo0 m H w→
 UpTo E.P (fun v' w'=>∃ m',Good B lo0 m H w m' H' w'∧VRel m' v v') ((do let d ←Deferred.ofValue f' bF;invoke d.target d.args:Sem Next).run E.P w)
abbrev iG(B lo0:Nat)(E:Env)(m:Match)(H:Heap)(w:World)(v:Value)(H':Heap)(r:Result Next):Prop:=UpTo E.P (fun v' w'=>∃ m',Good B lo0 m H w m' H' w'∧VRel m' v v') r
theorem iG.still{s:Sem Value}{v v':Value}(hR:Rel B lo0 m H w)(h:s.run E.P w= .ok v' w)(hv:VRel m v v'):iG B lo0 E m H w v H ((do pure (.value (←s)):Sem Next).run E.P w):=by
 simp only[wB,h,wu,wC]
 exact⟨m,.refl hR,hv⟩
theorem iG.made{s:Sem Value}{v v':Value}{m':Match}{H':Heap}{w':World}(h:s.run E.P w= .ok v' w')(hg:Good B lo0 m H w m' H' w')(hv:VRel m' v v'):
  iG B lo0 E m H w v H' ((do pure (.value (←s)):Sem Next).run E.P w):=by
 simp only[wB,h,wu,wC]
 exact⟨m',hg,hv⟩
theorem iG.done{s:Sem Unit}{m':Match}{H':Heap}{w':World}(h:s.run E.P w= .ok () w')(hg:Good B lo0 m H w m' H' w'):iG B lo0 E m H w undef H' ((do s;pure .skip:Sem Next).run E.P w):=by
 simp only[wB,h,wu,wC]
 exact⟨m',hg,Fm m'⟩
theorem Ld(hE:EnvOk E){x x' rv:Value}{name:String}{f:FuncId}(h:methodOf E x name=some (f,rv))(hx:VRel m x x'):
  ∃t v tE,x'= .iface t v∧(∀n w,(method (n+1) t v name).run E.P w= .ok (f,tE) w)∧VRel m rv tE:=by
 unfold methodOf at h
 split at h
 ·rename_i t v
  cases hx with
  |iface _ hv=>
   rename_i v'
   simp only[we]at h
   obtain⟨info,h1,md,h2,h3⟩:=h
   split at h3
   ·rename_i f₀ pr hp hf
    simp only[we]at h3
    obtain⟨j,h4,h5⟩:=h3
    refine⟨t,v',v',rfl,fun n w=>?_,?_⟩
    ·have zF:(typeInfo t).run E.P w= .ok info w:=run_typeInfo w h1
     have hu:=hE.desc h4 rfl w
     cases pr with
     |true=>
      cases hd:j.desc<;>simp only[hd,reduceCtorEq,wi,wk]at h5
      rw[hd]at hu
      simp only[method,wB,zF,wu,h2,hp,follow,wC,hf,receiverAt,hu,Place.get,h5.1]
     |false=>
      have Fo:∀ e,j.desc≠ .pointer e:=fun e hd=>by rw[hd]at h5;simp at h5
      have h6:f₀=f:=by cases hd:j.desc<;>simp only[hd,reduceCtorEq,wi,wk]at h5<;>exact h5.1
      cases hd:j.desc<;>first
       |(exact absurd hd (Fo _))
       |(rw[hd]at hu;simp only[method,wB,zF,wu,h2,hp,follow,wC,hf,receiverAt,hu,Place.get,h6])
    ·cases pr with
     |true=>cases hd:j.desc<;>simp only[hd,reduceCtorEq,wi,wk]at h5;rw[←h5.2];exact hv
     |false=>cases hd:j.desc<;>simp only[hd,reduceCtorEq,wi,wk]at h5<;>(rw[←h5.2];exact hv)
   ·simp at h3
 ·simp at h
theorem SP{T:Tr Value}{a:Act}(ht:fy m T a.tmps){x:Option Operand}{v:Option Value}(h:evO T x=some v):(x=none∧v=none)∨∃ y u,x=some y∧v=some u∧VRel m u (a.eval y):=by
 cases x with
 |none=>simp only[evO,wi]at h;exact .inl ⟨rfl,h.symm⟩
 |some y=>
  simp only[evO,we,wi]at h
  obtain⟨u,h1,rfl⟩:=h
  exact .inr ⟨y,u,rfl,rfl,cO ht h1⟩
def isInt?(x:Option Value):Prop:=x=none∨∃ k n,x=some (.int k n)
end
section
variable{B lo0:Nat}{m:Match}{w:World}{P:Program}
theorem Cz{len cap:Nat}{lo hi mx:Option Value}{b:Nat×Nat×Nat}(h:bounds len cap lo hi mx=some b):isInt? lo∧isInt? hi∧isInt? mx:=by
 simp only[bounds,we,wi]at h
 obtain⟨mm,h1,hh,h2,ll,h3,_⟩:=h
 refine⟨?_,?_,?_⟩
 ·cases lo with
  |none=>exact .inl rfl
  |some v=>cases v<;>simp only[reduceCtorEq]at h3;exact .inr ⟨_,_,rfl⟩
 ·cases hi with
  |none=>exact .inl rfl
  |some v=>cases v<;>simp only[reduceCtorEq]at h2;exact .inr ⟨_,_,rfl⟩
 ·cases mx with
  |none=>exact .inl rfl
  |some v=>cases v<;>simp only[reduceCtorEq]at h1;exact .inr ⟨_,_,rfl⟩
end
section
variable[Maps]{B lo0:Nat}{m:Match}{H:Heap}{w:World}{E:Env}
theorem SQ{t:TypeId}{x v:Value}{lo hi mx:Option Value}(h:sliceV E H t x lo hi mx=some v):isInt? lo∧isInt? hi∧isInt? mx:=by
 simp only[sliceV,we]at h
 obtain⟨i,_,h⟩:=h
 split at h
 ·split at h
  ·simp at h
  ·simp only[we]at h
   obtain⟨b,h3,_⟩:=h
   exact Cz h3
 ·obtain⟨_,h⟩:=cM h
  simp only[we]at h
  obtain⟨b,h3,_⟩:=h
  exact Cz h3
 ·obtain⟨_,h⟩:=cM h
  simp only[we]at h
  obtain⟨b,h3,_⟩:=h
  exact Cz h3
 ·simp only[we]at h
  obtain⟨b,h3,_⟩:=h
  exact Cz h3
 ·simp at h
theorem Fp{T:Tr Value}{a:Act}(ht:fy m T a.tmps){x:Option Operand}{v:Option Value}(h:evO T x=some v)(hi:isInt? v):x.map a.eval=v:=by
 rcases SP ht h with⟨rfl,rfl⟩|⟨y,u,rfl,rfl,hr⟩
 ·rfl
 ·rcases hi with hi|⟨k,n,hi⟩
  ·cases hi
  ·simp only[wi]at hi
   subst hi
   simp only[waE]
   generalize a.eval y=z at hr
   cases hr
   rfl
theorem SR{t:TypeId}{l c v:Value}{H':Heap}(h:makeSliceV E H t l c=some (v,H')):(∃k n,l= .int k n)∧∃ k n,c= .int k n:=by
 simp only[makeSliceV,we]at h
 obtain⟨i,_,h⟩:=h
 split at h
 ·exact⟨⟨_,_,rfl⟩,_,_,rfl⟩
 ·simp at h
theorem SS(hE:EnvOk E){s d:TypeId}{x x' v:Value}(h:convV E s d x=some v)(hx:VRel m x x')(w:World):∃ v',(convert s d x').run E.P w= .ok v' w∧VRel m v v':=by
 simp only[convV,we]at h
 obtain⟨i,h1,j,h2,h3⟩:=h
 split at h3
 ·rename_i k kn n hd
  cases hx
  rw[kj h3]
  refine⟨_,?_,.int _ _⟩
  simp only[convert,wB,hE.desc h1 rfl,hE.desc h2 hd,wu,Conv.intToInt,wC]
 ·rename_i hd
  cases hx
  simp only[wi]at h3
  subst h3
  refine⟨_,?_,.string _⟩
  simp only[convert,wB,hE.desc h1 rfl,hE.desc h2 hd,wu,wC]
 ·simp at h3
end
section
variable{m:Match}
theorem Le:∀ {l:List Value} {ns:List Int},bytesOf l=some ns→l=ns.map (Value.int .u8)
 |[],ns,h=>by simp only[bytesOf,wi]at h;subst h;rfl
 |x::l,ns,h=>by
  unfold bytesOf at h
  split at h
  ·rename_i e;cases e
  ·rename_i n l' e
   simp only[wbQ]at e
   obtain⟨rfl,rfl⟩:=e
   simp only[we,wi]at h
   obtain⟨r,h1,rfl⟩:=h
   rw[Le h1];rfl
  ·cases h
theorem Lf:∀ {ns:List Int} {l':List Value},LRel m (ns.map (Value.int .u8)) l'→l'=ns.map (Value.int .u8)
 |[],l',h=>h.mI
 |n::ns,l',h=>by
  obtain⟨v',r,rfl,h1,h2⟩:=LRel.oz (show LRel m (Value.int .u8 n::ns.map (Value.int .u8)) l' from h)
  cases h1
  rw[Lf h2];rfl
end
section
variable[Maps]{B lo0:Nat}{m:Match}{H:Heap}{w:World}{E:Env}
theorem SU(hE:EnvOk E)(hR:Rel B lo0 m H w){s d:TypeId}{x x' v:Value}(h:bytesStrV E H s d x=some v)(hx:VRel m x x'):∃ v',(convert s d x').run E.P w= .ok v' w∧VRel m v v':=by
 simp only[bytesStrV,we]at h
 obtain⟨i,h1,j,h2,h3⟩:=h
 split at h3
 ·rename_i e a n c hd hj
  simp only[we]at h3
  obtain⟨k,h4,h5⟩:=h3
  split at h5
  ·rename_i hk
   simp only[we,wi]at h5
   obtain⟨l,h6,ns,h7,rfl⟩:=h5
   obtain⟨l',h8,h9⟩:=zm (k:=n) (size:=1) hR h6 hx (waY n) (fun a' e'=>by cases e';rfl)
   have h9:=h9 w rfl E.P
   rw[Le h7]at h8
   rw[Lf h8]at h9
   have key:∀ a' c',x'= .slice (some a') n c'→(convert s d x').run E.P w= .ok (.string (Lg ns)) w:=fun a' c' e'=>by
    subst e'
    have SV:(underlying s).run E.P w= .ok (.slice e) w:=hE.desc h1 hd w
    have SW:(underlying d).run E.P w= .ok .string w:=hE.desc h2 hj w
    have SX:(underlying e).run E.P w= .ok (.int .u8) w:=hE.desc h4 hk w
    have hc:(convert s d (.slice (some a') n c')).run E.P w=(Conv.bytesToString (.slice (some a') n c')).run E.P w:=by
     simp only[convert,wB,SV,SW,SX,wu]
    rw[hc]
    exact run_bytesToString w a' n c' ns (by simpa only[Builtin.firstCells,waY]using h9)
   cases hx with
   |slice hm hc he hi=>exact⟨_,key _ _ rfl,.string _⟩
   |empty a hm he=>exact⟨_,key _ _ rfl,.string _⟩
  ·cases h5
 ·cases h3
theorem Lh{mm:Option Nat}{es:List (Value×Value)}(h:entriesOf H mm=some es):(mm=none∧es=[])∨∃ r,mm=some r∧H.objs.get r=some (.map es):=by
 cases mm with
 |none=>simp only[entriesOf,wi]at h;exact .inl ⟨rfl,h.symm⟩
 |some r=>
  simp only[entriesOf]at h
  cases hr:H.objs.get r with
  |none=>rw[hr]at h;simp at h
  |some o=>
   rw[hr]at h
   cases o<;>simp only[reduceCtorEq,wi]at h
   subst h
   exact .inr ⟨r,rfl,hr⟩
theorem SY(hE:EnvOk E)(hR:Rel B lo0 m H w){mm:Option Nat}{x':Value}{es:List (Value×Value)}{t k e:TypeId}{i:TI}(h1:E.ty.get t=some i)(hd:i.desc= .map k e)(h:entriesOf H mm=some es)(hx:VRel m (.map mm) x'):
  ∃v' w' m',(Instr.range t x').run E.P w= .ok v' w'∧Good B lo0 m H w m' (H.add (.iter mm es.length .start)) w'∧VRel m' (ptr H.next 0) v':=by
 have kW:∃ iH n,x'= .map iH∧n=es.length∧(match mm with|none=>iH=none|some r=>∃ q,m r=some q∧iH=some q.ax)∧(iH=none∧n=0∨∃ b bm,iH=some b∧w.heap[b]? =some (.map bm n)):=by
  rcases Lh h with⟨rfl,rfl⟩|⟨r,rfl,hr⟩
  ·cases hx
   exact⟨none,0,rfl,rfl,rfl,.inl ⟨rfl,rfl⟩⟩
  ·cases hx with
   |map hm=>
    obtain⟨bm,a,b,_⟩:=hR.obj r _ _ hm hr
    exact⟨_,bm.size,rfl,b,⟨_,hm,rfl⟩,.inr ⟨_,bm,rfl,a⟩⟩
 obtain⟨iH,n,rfl,hn,zG,hw⟩:=kW
 subst hn
 have bE:(Instr.range t (.map iH)).run E.P w= .ok (.pointer (some ⟨w.heap.size,0,none⟩)) (w.alloc (.mapIter iH es.length #[] es.length)):=by
  rcases hw with⟨rfl,h0⟩|⟨b,bm,rfl,hb⟩
  ·rw[h0]
   simp only[Instr.range,wB,hE.desc h1 hd,wu,wC,wbN]
   rfl
  ·simp only[Instr.range,wB,hE.desc h1 hd,wu,iu hb (fun c e f h=>by cases h),wC,wbN]
   rfl
 refine⟨_,_,_,bE,Good.added hR (.mapIter iH es.length #[] es.length) _ ⟨w.heap.size,0,0,true,0⟩ rfl (w':=w.alloc (.mapIter iH es.length #[] es.length)) rfl ⟨rfl,rfl⟩ ⟨rfl,iH, #[],by show(w.heap.push _)[w.heap.size]? =_;simp,?_,rfl⟩
  (fun c g t h=>by cases h),VRel.ptr (o:=0) (jE _ _ _)⟩
 cases mm with
 |none=>exact zG
 |some r=>obtain⟨q,h3,h4⟩:=zG;exact⟨q,oV _ hR.oW _ _ h3,h4⟩
theorem SZ(hE:EnvOk E)(hR:Rel B lo0 m H w){mm:Option Nat}{q:Nat×Nat}{x':Value}{t k e:TypeId}{i:TI}(h1:E.ty.get t=some i)(hd:i.desc= .map k e)(h:gOf H mm=some q)(hx:VRel m (.map mm) x'):
  ∃v' w' m',(Instr.range t x').run E.P w= .ok v' w'∧Good B lo0 m H w m' (H.add (.lO q.1 q.2 [] q.2)) w'∧VRel m' (ptr H.next 0) v':=by
 cases mm with
 |none=>simp[gOf]at h
 |some r=>
  simp only[gOf]at h
  split at h
  ·rename_i es c hr
   simp only[wi]at h
   subst h
   cases hx with
   |map hm=>
    rename_i p
    obtain⟨bm,a,b,_⟩:=hR.obj r p _ hm hr
    have bE:(Instr.range t (.map (some p.ax))).run E.P w= .ok (.pointer (some ⟨w.heap.size,0,none⟩)) (w.alloc (.mapIter (some p.ax) c #[] c)):=by
     simp only[Instr.range,wB,hE.desc h1 hd,wu,iu a (fun c e f h=>by cases h),wC,wbN]
     rfl
    exact⟨_,_,_,bE,Good.added hR (.mapIter (some p.ax) c #[] c) _ ⟨w.heap.size,0,0,true,0⟩ rfl (w':=w.alloc (.mapIter (some p.ax) c #[] c)) rfl ⟨rfl,rfl⟩ ⟨rfl,p,oV _ hR.oW _ _ hm,by show(w.heap.push _)[w.heap.size]? =_;simp⟩
     (fun c g t h=>by cases h),VRel.ptr (o:=0) (jE _ _ _)⟩
  ·simp at h
theorem S0(hE:EnvOk E)(hR:Rel B lo0 m H w){s:ByteArray}{x':Value}{t:TypeId}{i:TI}(h1:E.ty.get t=some i)(hd:i.desc= .string)(hx:VRel m (.string s) x'):
  ∃v' w' m',(Instr.range t x').run E.P w= .ok v' w'∧Good B lo0 m H w m' (H.add (.pj s 0)) w'∧VRel m' (ptr H.next 0) v':=by
 cases hx
 have bE:(Instr.range t (.string s)).run E.P w= .ok (.pointer (some ⟨w.heap.size,0,none⟩)) (w.alloc (.stringIter s 0)):=by
  simp only[Instr.range,wB,hE.desc h1 hd,wu,wC,wbN]
  rfl
 exact⟨_,_,_,bE,Good.added hR (.stringIter s 0) _ ⟨w.heap.size,0,0,true,0⟩ rfl (w':=w.alloc (.stringIter s 0)) rfl ⟨rfl,rfl⟩ ⟨rfl,by show(w.heap.push _)[w.heap.size]? =_;simp⟩
  (fun c g t h=>by cases h),VRel.ptr (o:=0) (jE _ _ _)⟩
end
section
theorem Li(n:Nat):∀ l,qo n l=l.contains n
 |[]=>rfl
 |y::l=>by
  simp only[qo,List.contains_cons,Li n l]
  congr 1
  rw[waU]
  simp only[wbp,wbO]
  exact eq_comm
theorem Lj{m:Match}(f:Nat→Bool):∀ (es:List ((Value×Value)×Nat)) (l:List MapEntry),l.length=es.length→(∀(i:Nat) (e:(Value×Value)×Nat),es[i]? =some e→∃ e':MapEntry,l[i]? =some e'∧VRel m e.1.1 e'.key∧VRel m e.1.2 e'.val∧e'.born=e.2)→
  (l.filter fun e=>f e.born).length=(es.filter fun e=>f e.2).length∧∀ (i:Nat) (e:(Value×Value)×Nat),(es.filter fun e=>f e.2)[i]? =some e→∃ e':MapEntry,(l.filter fun e=>f e.born)[i]? =some e'∧VRel m e.1.1 e'.key∧VRel m e.1.2 e'.val∧e'.born=e.2
 |[],[],_,_=>⟨rfl,fun i e h=>by simp at h⟩
 |[],_::_,h,_=>by simp at h
 |_::_,[],h,_=>by simp at h
 |e::es,e'::l,h,d=>by
  obtain⟨e₁,h1,h2,h3,h4⟩:=d 0 e rfl
  simp only[wQ,wi]at h1
  subst h1
  obtain⟨g1,g2⟩:=Lj f es l (by simpa using h) fun i x hx=>by simpa using d (i+1) x (by simpa using hx)
  simp only[wce,h4]
  cases f e.2 with
  |false=>exact⟨g1,g2⟩
  |true=>
   simp only[wah,wY,g1,wbT]
   intro i x hx
   cases i with
   |zero=>
    simp only[wQ,wi]at hx
    subst hx
    exact⟨e',rfl,h2,h3,h4⟩
   |succ i=>exact g2 i x (by simpa using hx)
theorem Ll{m:Match}{s:Nat}:∀ (es:List ((Value×Value)×Nat)) (l:List MapEntry),l.length=es.length→(∀(i:Nat) (e:(Value×Value)×Nat),es[i]? =some e→∃ e':MapEntry,l[i]? =some e'∧VRel m e.1.1 e'.key∧VRel m e.1.2 e'.val∧e'.born=e.2)→
  ∀{e},(es.find? fun e=>Nat.beq e.2 s)=some e→∃ e':MapEntry,(l.find? fun x=>x.born==s)=some e'∧VRel m e.1.1 e'.key∧VRel m e.1.2 e'.val
 |[],_,_,_,e,he=>by simp at he
 |_::_,[],h,_,e,he=>by simp at h
 |x::es,x'::l,h,d,e,he=>by
  obtain⟨e₁,h1,h2,h3,h4⟩:=d 0 x rfl
  simp only[wQ,wi]at h1
  subst h1
  rw[List.find?_cons]at he⊢
  have hb:(x'.born==s)=Nat.beq x.2 s:=by
   rw[h4,waU];simp
  rw[hb]
  cases hc:Nat.beq x.2 s with
  |true=>
   rw[hc]at he
   simp only[wi]at he
   subst he
   exact⟨x',rfl,h2,h3⟩
  |false=>
   rw[hc]at he
   exact Ll es l (by simpa using h) (fun i y hy=>by simpa using d (i+1) y (by simpa using hy)) he
theorem S3{s:ByteArray}{pos:Nat}(h:nextC s pos=none):¬ pos<s.size:=by
 unfold nextC at h
 split at h
 ·rename_i h1
  have:=List.getElem?_eq_none_iff.1 h1
  rw[waF]at this
  exact Nat.not_lt.2 this
 ·rename_i b h1
  cases hb:Nat.blt b.toNat 128<;>simp[hb]at h
theorem S4(s:ByteArray)(pos:Nat)(h:pos<s.size)(ha:(s[pos]'h).toNat<128):Utf8.decode s pos=((s[pos]'h).toNat,1):=by
 have e:s.get! (pos+0)=s[pos]'h:=by
  show s.get! pos=_
  simp[ByteArray.get!,getElem!_pos,h]
  rfl
 simp only[Utf8.decode,e,ha,wah]
theorem S5{s:ByteArray}{pos:Nat}{c:Nat×Nat}(h:nextC s pos=some c):pos<s.size∧c.1=(Utf8.decode s pos).1∧c.2=pos+(Utf8.decode s pos).2:=by
 unfold nextC at h
 split at h
 ·simp at h
 ·rename_i b h1
  have hlt:pos<s.size:=by
   have:=(wD.1 h1).1
   rw[waF]at this
   exact this
  have hb:s[pos]'hlt=b:=by
   have:=(wD.1 h1).2
   rw[wcM]at this
   exact this
  refine⟨hlt,?_⟩
  cases hc:Nat.blt b.toNat 128 with
  |true=>
   simp only[hc,wai,wi]at h
   have hd:=S4 s pos hlt (by rw[hb];simpa[Nat.blt_eq]using hc)
   rw[hd,←h,hb]
   exact⟨rfl,rfl⟩
  |false=>
   simp only[hc,wS,wi]at h
   rw[←h]
   exact⟨rfl,rfl⟩
end
section
variable[Maps]{B lo0:Nat}{m:Match}{H:Heap}{w:World}{E:Env}
theorem S6(hR:Rel B lo0 m H w){it rH v:Value}{H':Heap}(h:nextV H it=some (v,H'))(hi:VRel m it rH)(P:Program)(ty:TypeId):
  ∃v' w',(Instr.next rH true ty).run P w= .ok v' w'∧Good B lo0 m H w m H' w'∧VRel m v v':=by
 unfold nextV at h
 split at h
 ·rename_i r
  cases hi with
  |ptr hm=>
   rename_i p
   split at h
   ·rename_i s pos hr
    obtain⟨hb,h⟩:=cM h
    have aj:H.lo≤r:=by simpa using hb
    obtain⟨h0,h1⟩:=hR.obj r p _ hm hr
    split at h
    ·rename_i hn
     simp only[wi,wk]at h
     obtain⟨rfl,rfl⟩:=h
     refine⟨.tuple #[.bool false],w,?_,.refl hR,.tuple rfl (by simpa using(LRel.one (.bool false):LRel m [.bool false] [.bool false]).2)⟩
     simp only[h0,wau,Instr.next,wB,iu h1 (fun c e f h=>by cases h),wu,S3 hn,waa,wC]
    ·rename_i c hn
     obtain⟨hlt,e1,e2⟩:=S5 hn
     simp only[fb,wi,wk]at h
     obtain⟨rfl,rfl⟩:=h
     have bE:(Instr.next (.pointer (some ⟨p.ax,p.base+0,none⟩)) true ty).run P w= .ok (.tuple #[.bool true,.int .i64 pos,.int .i32 c.1]) (dR w p.ax (.stringIter s c.2)):=by
      simp only[h0,waX,Instr.next,wB,iu h1 (fun c e f h=>by cases h),wu,hlt,wah,ql h1 (fun c e f h=>by cases h),wC,e1,e2,goInt]
     refine⟨_,_,bE,?_,.tuple rfl (by simpa using(LRel.cons (.bool true) (.cons (.int _ _) (.one (.int _ _))):LRel m [.bool true,.int .i64 pos,.int .i32 c.1] [.bool true,.int .i64 pos,.int .i32 c.1]).2)⟩
     refine Good.exchange hR hm aj hr (fun c g t h=>by cases h) (o':= .pj s c.2) (fun c g t h=>by cases h) (by simp[Heap.setObj,Tr.force_eq]) (by simp[Heap.setObj,Tr.force_eq]) (by simp[Heap.setObj,Tr.force_eq]) (fun j x hx=>?_) ⟨h0,?_⟩
     ·simp only[Heap.setObj,Tr.force_eq]at hx
      exact Tr.dq hx
     ·exact nK _ (w0.1 h1).1
   ·simp at h
 ·simp at h
theorem S7(hR:Rel B lo0 m H w){it rH v:Value}{H':Heap}(h:nextG H it=some (v,H'))(hi:VRel m it rH)(P:Program)(ty:TypeId):
  ∃v' w',(Instr.next rH false ty).run P w= .ok v' w'∧Good B lo0 m H w m H' w'∧VRel m v v':=by
 unfold nextG at h
 split at h
 ·rename_i r
  cases hi with
  |ptr hm=>
   rename_i p
   split at h
   ·rename_i mm lP seen last hr
    obtain⟨hb,h⟩:=cM h
    have aj:H.lo≤r:=by simpa using hb
    obtain⟨h0,q,hq,h1⟩:=hR.obj r p _ hm hr
    split at h
    ·rename_i es c pk
     obtain⟨hc,h⟩:=cM h
     obtain⟨bm,a,b,d⟩:=hR.obj mm q _ hq pk
     have hz:bm.toList.map (·.born)=es.map Prod.snd:=by
      refine waR fun i=>?_
      rw[war,war]
      cases he:es[i]? with
      |none=>
       have:bm.toList[i]? =none:=by
        rw[List.getElem?_eq_none_iff]at he⊢
        rw[waF,b];exact he
       rw[this];rfl
      |some x=>
       obtain⟨⟨k,v⟩,n⟩:=x
       obtain⟨e',g1,_,_,g4⟩:=d i k v n he
       rw[wao,g1,waE,waE,g4]
     have Lm:(!seen.toArray.isEmpty&& !bm.isEmpty&&bm.all (·.born≥last))=false:=by
      have e1:seen.toArray.isEmpty=seen.isEmpty:=by simp
      have e2:bm.isEmpty=es.isEmpty:=by
       have:=congrArg List.length hz
       rw[wO,wO]at this
       rw[←Array.isEmpty_toList]
       cases h1:bm.toList<;>cases h2:es<;>rw[h1,h2]at this<;>simp at this⊢
      have e3:bm.all (·.born≥last)=es.all fun e=>Nat.ble last e.2:=by
       rw[←Array.all_toList]
       have h1:bm.toList.all (fun x=>decide (x.born≥last))=(bm.toList.map (·.born)).all fun n=>decide (n≥last):=by rw[List.all_map];rfl
       have h2:(es.all fun e=>Nat.ble last e.2)=(es.map Prod.snd).all fun n=>decide (n≥last):=by
        rw[List.all_map]
        congr 1
        funext e
        rw[waU]
        simp[wbi]
       rw[h1,h2,hz]
      rw[e1,e2,e3,Bool.and_assoc]
      exact hc
     have tF:∀ n,qo n seen=seen.toArray.contains n:=fun n=>by
      rw[List.contains_toArray];exact Li n seen
     have Fq:=Lj (m:=m) (fun n=> !qo n seen) es bm.toList (by rw[waF];exact b) fun i e he=>by
      obtain⟨⟨k,v⟩,n⟩:=e
      obtain⟨e',g1,g2⟩:=d i k v n he
      exact⟨e',by rw[wao];exact g1,g2⟩
     have Ln:(bm.filter fun e=> !seen.toArray.contains e.born).toList=bm.toList.filter fun e=> !qo e.born seen:=by
      rw[Array.toList_filter]
      simp only[tF]
     have Lp:(bm.filter fun e=> !seen.toArray.contains e.born).toList.length=(es.filter fun e=> !qo e.2 seen).length∧∀ e,(es.filter fun e=> !qo e.2 seen)=[e]→∃ e',bm.filter (fun e=> !seen.toArray.contains e.born)= #[e']∧VRel m e.1.1 e'.key∧VRel m e.1.2 e'.val∧e'.born=e.2:=by
      rw[Ln]
      refine⟨Fq.1,fun e he=>?_⟩
      obtain⟨e',g1,g2⟩:=Fq.2 0 e (by rw[he];rfl)
      have cg:=Fq.1
      rw[he]at cg
      have h1:(bm.toList.filter fun e=> !qo e.born seen)=[e']:=by
       obtain⟨x,hx⟩:=List.length_eq_one_iff.1 cg
       rw[hx]at g1⊢
       simp only[wQ,wi]at g1
       rw[g1]
      exact⟨e',by rw[←wbW,Ln,h1],g2⟩
     split at h
     ·rename_i hl
      simp only[wi,wk]at h
      obtain⟨rfl,rfl⟩:=h
      have h9:bm.filter (fun e=> !seen.toArray.contains e.born)= #[]:=by
       have:=Lp.1
       rw[hl]at this
       simpa using this
      refine⟨.tuple #[.bool false],w,?_,.refl hR,.tuple rfl (by simpa using(LRel.one (.bool false):LRel m [.bool false] [.bool false]).2)⟩
      simp only[h0,wau,Instr.next,wB,iu h1 (fun c e f h=>by cases h),iu a (fun c e f h=>by cases h),wu,Lm,wG,waa,h9]
      simp[choose,Sem.run,Question.forced]
     ·rename_i e hl
      obtain⟨hs,h⟩:=cr h
      have hs:e.2<lP:=wan hs
      simp only[wi,wk]at h
      obtain⟨rfl,rfl⟩:=h
      obtain⟨e',h9,g1,g2,g3⟩:=Lp.2 e hl
      have bE:(Instr.next (.pointer (some ⟨p.ax,p.base+0,none⟩)) false ty).run P w= .ok (.tuple #[.bool true,e'.key,e'.val]) (dR w p.ax (.mapIter (some q.ax) lP (seen++[e.2]).toArray c)):=by
       have Fs:e'.born<lP:=by omega
       have o1:(#[e'].filter fun x=>decide (x.born<lP))= #[e']:=by simp[Fs]
       have o2:(#[e'].filter fun x=>decide (x.born≥lP))= #[]:=by simp;omega
       simp only[h0,wau,Instr.next,wB,iu h1 (fun c e f h=>by cases h),iu a (fun c e f h=>by cases h),wu,Lm,wG,waa,h9,o1,o2]
       have S8:(choose (Question.mapNext 1)).run P w= .ok 0 w:=by simp[choose,Sem.run,Question.forced]
       have bh:((if(#[e']:Array MapEntry).isEmpty=true then #[none]else #[])++Array.map some (#[e']++ #[]))= #[some e']:=by simp
       rw[bh]
       show((choose (Question.mapNext 1)).run P w).andThen _=_
       rw[S8,wu]
       have Ft:seen.toArray.push e'.born=(seen++[e.2]).toArray:=by simp[g3]
       show(do setObj p.ax (Obj.mapIter (some q.ax) lP (seen.toArray.push e'.born) c);pure (Value.tuple #[.bool true,e'.key,e'.val]):Sem Value).run P w=_
       rw[Ft]
       simp only[wB,ql h1 (fun c e f h=>by cases h),wu,wC]
      refine⟨_,_,bE,?_,.tuple rfl (by simpa using(LRel.cons (.bool true) (.cons g1 (.one g2)):LRel m [.bool true,e.1.1,e.1.2] [.bool true,e'.key,e'.val]).2)⟩
      refine Good.exchange hR hm aj hr (fun c g t h=>by cases h) (o':= .lO mm lP (seen++[e.2]) c) (fun c g t h=>by cases h) (by simp[Heap.setObj,Tr.force_eq]) (by simp[Heap.setObj,Tr.force_eq]) (by simp[Heap.setObj,Tr.force_eq]) (fun j x hx=>?_) ⟨h0,q,hq,?_⟩
      ·simp only[Heap.setObj,Tr.force_eq]at hx
       exact Tr.dq hx
      ·exact nK _ (w0.1 h1).1
     ·simp at h
    ·simp at h
   ·simp at h
 ·simp at h
theorem S9(hR:Rel B lo0 m H w){it rH v:Value}(h:entryV H it=some v)(hi:VRel m it rH)(P:Program):∃ v',(Instr.entry rH).run P w= .ok v' w∧VRel m v v':=by
 unfold entryV at h
 split at h
 ·rename_i r
  cases hi with
  |ptr hm=>
   rename_i p
   split at h
   ·rename_i mm n i hr
    simp only[we]at h
    obtain⟨es,h1,h2⟩:=h
    obtain⟨h3,h4⟩:=cr h2
    have hn:es.length=n:=by simpa using h3
    simp only[we,wi]at h4
    obtain⟨e,h5,rfl⟩:=h4
    obtain⟨a0,iH,seen,a1,a2,a3⟩:=hR.obj r p _ hm hr
    rcases Lh h1 with⟨rfl,rfl⟩|⟨q,rfl,hq⟩
    ·simp at h5
    ·obtain⟨s,b1,rfl⟩:=a2
     obtain⟨bm,c1,c2,c3⟩:=hR.obj q s _ b1 hq
     obtain⟨e',d1,d2,d3,d4⟩:=c3 i e.1 e.2 (by rw[h5])
     have Fu:bm.find? (·.born==i)=some e':=by
      rw[←Array.find?_toList,List.find?_eq_some_iff_getElem]
      have Ta:=(w0.1 d1).1
      refine⟨by simp[d4],i,by simpa using Ta,by simpa using(w0.1 d1).2,fun j hj=>?_⟩
      have pn:j<es.length:=by omega
      obtain⟨oB,f1,_,_,f4⟩:=c3 j (es[j]'pn).1 (es[j]'pn).2 (by rw[wj pn])
      have f2:=(w0.1 f1).2
      simp only[wcM,f2,f4]
      simp;omega
     refine⟨.tuple #[e'.key,e'.val],?_,VRel.uW (.cons d2 (.one d3))⟩
     have Tb:(bm.size !=n)=false:=by rw[c2,hn];simp
     simp only[Instr.entry,a0,waX,wB,iu a1 (fun c e f h=>by cases h),wu,a3,iu c1 (fun c e f h=>by cases h),Tb,wG,waa,Fu,wC]
   ·rename_i mm lP seen last hr
    split at h
    ·rename_i es c pk
     have h8:=cr h
     clear h
     obtain⟨hc,h8⟩:=h8
     have hc:c=last:=by simpa using hc
     subst hc
     simp only[we,wi]at h8
     obtain⟨s,h5,e,h6,rfl⟩:=h8
     obtain⟨a0,q,a1,a2⟩:=hR.obj r p _ hm hr
     obtain⟨bm,c1,c2,c3⟩:=hR.obj mm q _ a1 pk
     obtain⟨e',d1,d2,d3⟩:=Ll es bm.toList (by rw[waF];exact c2) (fun i e he=>by
      obtain⟨⟨k,v⟩,n⟩:=e
      obtain⟨e',g1,g2⟩:=c3 i k v n he
      exact⟨e',by rw[wao];exact g1,g2⟩) h6
     have Fu:bm.find? (·.born==s)=some e':=by rw[←Array.find?_toList];exact d1
     have Tc:seen.toArray.back? =some s:=by simpa using h5
     refine⟨.tuple #[e'.key,e'.val],?_,VRel.uW (.cons d2 (.one d3))⟩
     simp only[Instr.entry,a0,waX,wB,iu a2 (fun c e f h=>by cases h),wu,Tc,iu c1 (fun c e f h=>by cases h),bne_self_eq_false,wG,waa,Fu,wC]
    ·simp at h
   ·simp at h
 ·simp at h
end
variable[Maps]{B lo0:Nat}{m:Match}{H:Heap}{w:World}{E:Env}
theorem iG.val{v v':Value}(hR:Rel B lo0 m H w)(hv:VRel m v v'):iG B lo0 E m H w v H ((pure (.value v'):Sem Next).run E.P w):=by
 simp only[wC]
 exact⟨m,.refl hR,hv⟩
theorem iG.next{r:Result Next}{v v':Value}{m':Match}{H':Heap}{w':World}(h:r= .ok (.value v') w')(hg:Good B lo0 m H w m' H' w')(hv:VRel m' v v'):iG B lo0 E m H w v H' r:=by
 subst h
 exact⟨m',hg,hv⟩
theorem Ug(hE:EnvOk E){x x' rv:Value}{name:String}{f:FuncId}(h:methodOf E x name=some (f,rv))(hx:VRel m x x'):
  ∃t v,x'= .iface t v∧∀ n w,(nilAhead (n+1) t v name).run E.P w= .ok (some false) w:=by
 unfold methodOf at h
 split at h
 ·rename_i t v
  cases hx with
  |iface _ hv=>
   rename_i v'
   simp only[we]at h
   obtain⟨info,h1,md,h2,h3⟩:=h
   split at h3
   ·rename_i f₀ pr hp hf
    simp only[we]at h3
    obtain⟨j,h4,h5⟩:=h3
    refine⟨t,v',rfl,fun n w=>?_⟩
    have zF:(typeInfo t).run E.P w= .ok info w:=run_typeInfo w h1
    have hu:=hE.desc h4 rfl w
    cases pr with
    |true=>simp only[nilAhead,wB,zF,wu,h2,hp,followBlind,wC,hf]
    |false=>
     have Fo:∀ e,j.desc≠ .pointer e:=fun e hd=>by rw[hd]at h5;simp at h5
     cases hd:j.desc<;>first
      |(exact absurd hd (Fo _))
      |(rw[hd]at hu;simp only[nilAhead,wB,zF,wu,h2,hp,followBlind,wC,hf,hu])
   ·simp at h3
 ·simp at h
theorem nilCheck_sim(hE:EnvOk E)(hR:Rel B lo0 m H w){x:Value}{v:Value}{H':Heap}
  (h:(match x with
  | .pointer (some _)=>some (x,H)
  | .func (.func _) _ _=>some (x,H)
  | .func (.yield _) _ _=>some (x,H)
  | .func (.via ..) _ _=>some (x,H)
  | .func (.method name) first _=>(match first.toList with
    |y::_=>(methodOf E y name).bind fun _=>some (x,H)
    |[]=>none)
  | .iface _ _=>some (x,H)
  |_=>none)=some (v,H')) {x':Value} (hx:VRel m x x') (o:Oper) (y:Operand) (ho:o.op= .nilCheck y) (a:Act) (hy:a.eval y=x'):iG B lo0 E m H w v H' ((execOp a.eval o).run E.P w):=by
 simp only[execOp,ho,hy]
 cases hx with
 |ptr hm=>simp only[wi,wk]at h;obtain⟨rfl,rfl⟩:=h;exact .val hR (.ptr hm)
 |iface t hv=>simp only[wi,wk]at h;obtain⟨rfl,rfl⟩:=h;exact .val hR (.iface t hv)
 |func hf ha hb ra rb=>
  rename_i f f' p p' q q'
  cases f with
  |func g=>
   simp only[FnRel]at hf
   subst hf
   simp only[wi,wk]at h;obtain⟨rfl,rfl⟩:=h;exact .val hR (.func rfl ha hb ra rb)
  |yield l=>
   obtain⟨q,h1,rfl⟩:=hf
   simp only[wi,wk]at h;obtain⟨rfl,rfl⟩:=h;exact .val hR (.func ⟨q,h1,rfl⟩ ha hb ra rb)
  |via t path g p=>
   simp only[FnRel]at hf
   subst hf
   simp only[wi,wk]at h;obtain⟨rfl,rfl⟩:=h;exact .val hR (.func rfl ha hb ra rb)
  |method name=>
   simp only[FnRel]at hf
   subst hf
   simp only at h
   cases hp:p.toList with
   |nil=>rw[hp]at h;simp at h
   |cons x l=>
    rw[hp]at h
    simp only[we,wi,wk]at h
    obtain⟨mm,h1,rfl,rfl⟩:=h
    have hl:LRel m p.toList p'.toList:=⟨ha,ra⟩
    rw[hp]at hl
    obtain⟨x',r',e1,e2,e3⟩:=hl.oz
    obtain⟨t,u,rfl,f2⟩:=Ug hE (f:=mm.1) (rv:=mm.2) h1 e2
    have h0:p'[0]? =some (.iface t u):=by rw[←wao,e1];rfl
    have hP:(program:Sem Program).run E.P w= .ok E.P w:=rfl
    simp only[h0,wB,hP,wu,show E.P.types.size+Made.depth=(E.P.types.size+99)+1 from rfl,f2,bne_self_eq_false,wG,waa]
    exact .val hR (.func (show FnRel m (.method name) (.method name)from rfl) ha hb ra rb)
  |_=>simp at h
 |_=>simp at h
theorem LZ(hE:EnvOk E){call:dc}(hc:qm B lo0 E call)(hR:Rel B lo0 m H w){T:Tr Value}{a:Act}(ht:fy m T a.tmps){o:Oper}{v:Value}{H':Heap}(h:exOp E call T o H=some (v,H')):
  iG B lo0 E m H w v H' ((execOp a.eval o).run E.P w):=by
 unfold exOp at h
 cases ho:o.op with
 |move x=>
  simp only[ho,we,wi,wk]at h
  obtain⟨u,h1,rfl,rfl⟩:=h
  simp only[execOp,ho]
  exact .val hR (cO ht h1)
 |assign x=>
  simp only[ho,we,wi,wk]at h
  obtain⟨u,h1,rfl,rfl⟩:=h
  simp only[execOp,ho]
  exact .val hR (cO ht h1)
 |pick c x y=>
  simp only[ho,we]at h
  obtain⟨u,h1,h2⟩:=h
  have hu:=cO ht h1
  simp only[execOp,ho]
  generalize a.eval c=z at hu
  split at h2
  ·cases hu
   simp only[we,wi,wk]at h2
   obtain⟨u,h3,rfl,rfl⟩:=h2
   simp only[asBool,wB,wC,wu,wah]
   exact⟨m,.refl hR,cO ht h3⟩
  ·cases hu
   simp only[we,wi,wk]at h2
   obtain⟨u,h3,rfl,rfl⟩:=h2
   simp only[asBool,wB,wC,wu,wG,waa]
   exact⟨m,.refl hR,cO ht h3⟩
  ·simp at h2
 |alloc t=>
  simp only[ho,we,wi,wk]at h
  obtain⟨i,h1,z,h2,rfl,rfl⟩:=h
  simp only[execOp,ho]
  obtain⟨v',w',m',h3,h4,h5⟩:=Uh hE hR h1 h2
  exact .made h3 h4 h5
 |box t x=>
  simp only[ho,we,wi,wk]at h
  obtain⟨u,h1,rfl,rfl⟩:=h
  simp only[execOp,ho]
  obtain⟨v',w',m',h3,h4,h5⟩:=Ui hR (t:=t) (cO ht h1) E.P
  exact .made h3 h4 h5
 |build t parts=>
  simp only[ho,we,wi,wk]at h
  obtain⟨u,h1,rfl,rfl⟩:=h
  simp only[execOp,ho]
  obtain⟨v',h3,h5⟩:=Uj hE ht h1 w
  exact .still hR h3 h5
 |buildSlice t len parts=>
  simp only[ho,we]at h
  obtain⟨i,h1,h⟩:=h
  split at h
  ·rename_i e hd
   simp only[we]at h
   obtain⟨j,h2,z,hz,h⟩:=h
   cases hb:(!Nat.beq (cj z).length j.size|| !Nat.ble (len*j.size) 10000000||Nat.beq j.size 0)with
   |true=>rw[hb]at h;simp at h
   |false=>
    rw[hb]at h
    simp only[wS,we,wi,wk]at h
    obtain⟨ps,h6,l,h7,rfl,rfl⟩:=h
    simp only[wbM,waM,wbp,wbi]at hb
    have h5:j.size≠0:=fun h0=>by have:=hb.2;rw[h0]at this;simp at this
    simp only[execOp,ho]
    obtain⟨v',w',m',h3,h4,h8⟩:=Uk hE hR ht h1 hd h2 hz hb.1.1 hb.1.2 h5 h6 h7
    exact .made h3 h4 h8
  ·simp at h
 |load t x=>
  simp only[ho,we,wi,wk]at h
  obtain⟨u,h1,u2,h2,rfl,rfl⟩:=h
  simp only[execOp,ho]
  obtain⟨v',h3,h5⟩:=Mc hE hR h2 (cO ht h1)
  exact .still hR h3 h5
 |store t x y=>
  simp only[ho,we,wi,wk]at h
  obtain⟨u,h1,u2,h2,H2,h3,rfl,rfl⟩:=h
  simp only[execOp,ho]
  obtain⟨w',h4,h5⟩:=Ul hE hR h3 (cO ht h1) (cO ht h2)
  exact .done h4 h5
 |nilCheck x=>
  simp only[ho,we]at h
  obtain⟨u,h1,h⟩:=h
  exact nilCheck_sim hE hR h (cO ht h1) o x ho a rfl
 |binOp op t x y ty=>
  simp only[ho,we,wi,wk]at h
  obtain⟨u,h1,u2,h2,u3,h3,rfl,rfl⟩:=h
  simp only[execOp,ho]
  obtain⟨h4,h5⟩:=Um hE h3 (cO ht h1) (cO ht h2) w
  exact .still hR h4 h5
 |unOp op t x=>
  simp only[ho,we,wi,wk]at h
  obtain⟨u,h1,u2,h2,rfl,rfl⟩:=h
  simp only[execOp,ho]
  obtain⟨h4,h5⟩:=Un h2 m (cO ht h1)
  rw[h4]
  exact .still hR (Uo h2 w E.P) h5
 |convert s d x=>
  simp only[ho,we,wi,wk]at h
  obtain⟨u,h1,u2,h2,rfl,rfl⟩:=h
  simp only[execOp,ho]
  unfold nM at h2
  cases hb:Nat.beq s BT with
  |true=>
   rw[hb]at h2
   obtain⟨v',h4,h5⟩:=SU hE hR h2 (cO ht h1)
   exact .still hR h4 h5
  |false=>
   rw[hb]at h2
   obtain⟨v',h4,h5⟩:=SS hE h2 (cO ht h1) w
   exact .still hR h4 h5
 |makeInterface t x=>
  simp only[ho,we]at h
  obtain⟨u,h1,i,h2,h⟩:=h
  simp only[execOp,ho]
  have hd:=hE.desc h2 rfl w
  have hx:=cO ht h1
  have hv:v= .iface t u∧H'=H:=by cases hi:i.desc<;>rw[hi]at h<;>simp only[reduceCtorEq,wi,wk]at h<;>exact⟨h.1.symm,h.2.symm⟩
  obtain⟨rfl,rfl⟩:=hv
  have bE:(Instr.makeInterface t (a.eval x)).run E.P w= .ok (.iface t (a.eval x)) w:=by
   simp only[Instr.makeInterface,wB,hd,wu]
   cases hi:i.desc<;>first
    |rfl
    |(rw[hi]at h;simp only[reduceCtorEq]at h)
  exact .still hR bE (.iface t hx)
 |makeFunc fn first captured=>
  simp only[execOp,ho]
  cases fn with
  |yield l=>simp[ho]at h
  |_=>
   simp only[ho,we,wi,wk]at h
   obtain⟨fs,h1,cs,h2,rfl,rfl⟩:=h
   have r1:=CK ht h1
   have r2:=CK ht h2
   exact .still hR (v':= .func _ (first.map a.eval) (captured.map a.eval)) rfl (.func rfl (by simpa using r1.1) (by simpa using r2.1) (by simpa using r1.2) (by simpa using r2.2))
 |makeMap t r=>
  cases r with
  |some x=>simp[ho]at h
  |none=>
   simp only[ho,wi,wk]at h
   obtain⟨rfl,rfl⟩:=h
   simp only[execOp,ho]
   refine .made (v':= .map (some w.heap.size)) (w':=w.alloc (.map #[] 0)) (m':=eD m H.next ⟨w.heap.size,0,0,true,0⟩) ?_ (Good.added hR (.map #[] 0) _ ⟨w.heap.size,0,0,true,0⟩ rfl rfl ⟨rfl,rfl⟩ ⟨#[],?_,rfl,fun i k v h=>by simp at h⟩ (fun c g t h=>by cases h)) (.map (jE _ _ _))
   ·simp only[Instr.makeMap,wcH,wB,wC,wbN,wu]
    rfl
   ·show(w.heap.push _)[w.heap.size]? =_
    simp
 |makeSlice t l c=>
  simp only[ho,we]at h
  obtain⟨u,h1,u2,h2,h3⟩:=h
  simp only[execOp,ho]
  obtain⟨⟨k1,n1,rfl⟩,k2,n2,rfl⟩:=SR h3
  obtain⟨v',w',m',h4,h5,h6⟩:=Up hE hR h3
  have e1:=cO ht h1
  have e2:=cO ht h2
  generalize a.eval l=x1 at e1
  generalize a.eval c=x2 at e2
  cases e1
  cases e2
  exact .made h4 h5 h6
 |slice t x lo hi mx=>
  simp only[ho,we,wi,wk]at h
  obtain⟨u,h1,u2,h2,u3,h3,u4,h4,u5,h5,rfl,rfl⟩:=h
  simp only[execOp,ho]
  obtain⟨i1,i2,i3⟩:=SQ h5
  obtain⟨v',h6,h7⟩:=Uq hE hR h5 (cO ht h1)
  rw[Fp ht h2 i1,Fp ht h3 i2,Fp ht h4 i3]
  exact .still hR h6 h7
 |fieldAddr s x f=>
  simp only[ho,we,wi,wk]at h
  obtain⟨u,h1,u2,h2,rfl,rfl⟩:=h
  simp only[execOp,ho]
  obtain⟨v',h4,h5⟩:=Ur hE h2 (cO ht h1) w
  exact .still hR h4 h5
 |field t x f=>
  simp only[ho,we,wi,wk]at h
  obtain⟨u,h1,u2,h2,rfl,rfl⟩:=h
  simp only[execOp,ho]
  obtain⟨v',h4,h5⟩:=Us hE h2 (cO ht h1) w
  exact .still hR h4 h5
 |indexAddr t x ix=>
  simp only[ho,we,wi,wk]at h
  obtain⟨u,h1,u3,h3,u2,h2,rfl,rfl⟩:=h
  simp only[execOp,ho]
  obtain⟨v',h4,h5⟩:=Ut hE h2 (cO ht h1) (cO ht h3) w
  exact .still hR h4 h5
 |index t x ix=>
  simp only[ho,we,wi,wk]at h
  obtain⟨u,h1,u3,h3,u2,h2,rfl,rfl⟩:=h
  simp only[execOp,ho]
  obtain⟨v',h4,h5⟩:=Uu hE h2 (cO ht h1) (cO ht h3) w
  exact .still hR h4 h5
 |lookup t x i ok=>
  simp only[ho,we,wi,wk]at h
  obtain⟨u,h1,u3,h3,u2,h2,rfl,rfl⟩:=h
  simp only[execOp,ho]
  obtain⟨v',h4,h5⟩:=Uv hE hR h2 (cO ht h1) (cO ht h3)
  exact .still hR h4 h5
 |mapUpdate t x k y=>
  simp only[ho,we,wi,wk]at h
  obtain⟨u,h1,u2,h2,u3,h3,H2,h4,rfl,rfl⟩:=h
  simp only[execOp,ho]
  obtain⟨w',h5,h6⟩:=Uw hE hR h4 (cO ht h1) (cO ht h2) (cO ht h3)
  exact .done h5 h6
 |range t x=>
  simp only[ho,we]at h
  obtain⟨u,h1,i,h2,ob,h,hv⟩:=h
  simp only[wi,wk]at hv
  obtain⟨rfl,rfl⟩:=hv
  unfold rangeO at h
  split at h
  ·rename_i k e mm hd
   split at h
   ·rename_i q hq
    simp only[wi]at h
    subst h
    simp only[execOp,ho]
    obtain⟨v',w',m',h4,h5,h6⟩:=SZ hE hR h2 hd hq (cO ht h1)
    exact .made h4 h5 h6
   simp only[we,wi]at h
   obtain⟨es,h3,rfl⟩:=h
   simp only[execOp,ho]
   obtain⟨v',w',m',h4,h5,h6⟩:=SY hE hR h2 hd h3 (cO ht h1)
   exact .made h4 h5 h6
  ·rename_i s hd
   simp only[wi]at h
   subst h
   simp only[execOp,ho]
   obtain⟨v',w',m',h4,h5,h6⟩:=S0 hE hR h2 hd (cO ht h1)
   exact .made h4 h5 h6
  ·simp at h
 |next it str=>
  cases str with
  |false=>
   simp only[ho,we]at h
   obtain⟨u,h1,h2⟩:=h
   simp only[execOp,ho]
   obtain⟨v',w',h4,h5,h6⟩:=S7 hR h2 (cO ht h1) E.P o.type
   exact .made h4 h5 h6
  |true=>
   simp only[ho,we]at h
   obtain⟨u,h1,h2⟩:=h
   simp only[execOp,ho]
   obtain⟨v',w',h4,h5,h6⟩:=S6 hR h2 (cO ht h1) E.P o.type
   exact .made h4 h5 h6
 |entry it=>
  simp only[ho,we,wi,wk]at h
  obtain⟨u,h1,u2,h2,rfl,rfl⟩:=h
  simp only[execOp,ho]
  obtain⟨v',h4,h5⟩:=S9 hR h2 (cO ht h1) E.P
  exact .still hR h4 h5
 |extract t ix=>
  simp only[ho,we]at h
  obtain⟨u,h1,h⟩:=h
  have hu:=cO ht h1
  simp only[execOp,ho]
  generalize a.eval t=x' at hu
  split at h
  ·cases hu with
   |tuple ha ra=>
    rename_i fh
    simp only[we,wi,wk]at h
    obtain⟨u2,h2,rfl,rfl⟩:=h
    obtain⟨v',h3,h4⟩:=LRel.get ⟨ha,ra⟩ h2
    refine .still hR (v':=v') ?_ h4
    have h5:fh[ix]? =some v':=by simpa using h3
    simp only[Instr.extract,h5,wC]
  ·simp at h
 |call c=>
  simp only[ho,we]at h
  obtain⟨args,h1,h⟩:=h
  have hargs:LRel m args (c.args.map a.eval).toList:=by simpa using CK ht h1
  simp only[execOp,ho]
  cases ln:c.callee with
  |builtin b=>
   simp only[ln]at h
   obtain⟨v',w',m',h3,h4,h5⟩:=Ux hE hR hargs h o.type (c.args.map fun| .const _=>true|_=>false)
   simp only[resolve,ln,wB,wC,wu,invoke]
   exact iG.next h3 h4 h5
  |value f=>
   simp only[ln,we]at h
   obtain⟨fv,h2,h3⟩:=h
   have:=hc fv args H v H' h3 m w _ _ (cO ht h2) hargs hR
   simpa only[resolve,ln]using this
  |invoke x name=>
   simp only[ln,we]at h
   obtain⟨xv,h2,mm,h3,h4⟩:=h
   obtain⟨t,u,tE,e1,e2,e3⟩:=Ld hE (f:=mm.1) (rv:=mm.2) h3 (cO ht h2)
   have:=hc _ _ H v H' h4 m w (.func (.func mm.1) #[] #[]) (#[tE]++c.args.map a.eval) (.func rfl rfl rfl (fun i v v' h=>by simp at h) (fun i v v' h=>by simp at h)) (by simpa using LRel.cons e3 hargs) hR
   have hP:(program:Sem Program).run E.P w= .ok E.P w:=rfl
   simp only[resolve,ln,wB,wC,wu,invoke,e1]
   simp only[Deferred.ofValue,wB,wC,wu,invoke]at this
   have he:(#[Value.iface t u]++c.args.map a.eval)[0]? =some (.iface t u):=by
    rw[wcb (by simp)];rfl
   have hx:(#[Value.iface t u]++c.args.map a.eval).extract 1 (#[Value.iface t u]++c.args.map a.eval).size=c.args.map a.eval:=by
    apply wcJ
    simp[wZ]
   simp only[he,hx,callMethod,wB,hP,wu,show E.P.types.size+Made.depth=(E.P.types.size+99)+1 from rfl,e2]
   simpa using this
 |_=>simp[ho]at h
end Go.AM
namespace Go.AM
section
variable[Maps]{B lo0:Nat}{m:Match}{H:Heap}{w:World}{E:Env}
end
section
variable{B lo0:Nat}{m:Match}{w:World}{P:Program}
theorem run_program(P:Program)(w:World):(program:Sem Program).run P w= .ok P w:=rfl
end
section
variable[Maps]{B lo0:Nat}{m:Match}{H:Heap}{w:World}{E:Env}
def mT(m:Match):List Nat→List Deferred→Prop
 |[],[]=>True
 |r::rs,d::ds=>(∃p,m r=some p∧d.target= .collected p.ax)∧mT m rs ds
 |_,_=>False
end
section
variable{B lo0:Nat}{m:Match}{w:World}{P:Program}
theorem mT.mono{m m':Match}(h:m.le m'):∀ {rs:List Nat} {ds:List Deferred},mT m rs ds→mT m' rs ds
 |[],[],_=>trivial
 |_::_,_::_,⟨⟨p,h1,h2⟩,h3⟩=>⟨⟨p,h _ _ h1,h2⟩,h3.mono h⟩
end
section
variable[Maps]{B lo0:Nat}{m:Match}{H:Heap}{w:World}{E:Env}
structure gG(m:Match)(fr:Fr)(a:Act)(ro:Option Nat):Prop where
 tmps:fy m fr.T a.tmps
 size:a.tmps.size=fr.size
 marks:mT m fr.marks a.defers
 round:fr.round=none→ro=none
def Ex.to:Ex→Exit
 | .normal=> .normal
 | .exit id=> .exit id
 | .ret=> .ret
def fU(B lo0:Nat)(m:Match)(H:Heap)(w:World)(c:Code)(a:Act)(ro:Option Nat)(ex:Ex)(bq:Fr)(H':Heap):Exit→Act→World→Prop:=
 fun e a' w'=>e=ex.to∧∃ m',Good B lo0 m H w m' H' w'∧gG m' bq a' ro∧∀ t,t∉writesOf c→a'.tmps[t]? =a.tmps[t]?
def oA(E:Env)(run:Code→Fr→Heap→Option (Ex×Fr×Heap)):Prop:=∀ c fr H ex bq H',run c fr H=some (ex,bq,H')→∀ B lo0 m a w ro,Rel B lo0 m H w→gG m fr a ro→
 c.wpIn (fj ro) 0 E.P (fU B lo0 m H w c a ro ex bq H') a w
end
section
variable{B lo0:Nat}{m:Match}{w:World}{P:Program}
theorem vj{a:Act}{d:Tmp}{v:Value}:(a.put (some d) v).tmps=a.tmps.setIfInBounds d v:=rfl
end
section
variable[Maps]{B lo0:Nat}{m:Match}{H:Heap}{w:World}{E:Env}
theorem Cu{m:Match}{T T':Tr Value}{a:Act}{size:Nat}{dst:Option Tmp}{v v':Value}(h:gW size T dst v=some T')(ht:fy m T a.tmps)(hs:a.tmps.size=size)(hv:VRel m v v'):
  fy m T' (a.put dst v').tmps∧(a.put dst v').tmps.size=size∧(a.put dst v').defers=a.defers∧∀ t,dst≠some t→(a.put dst v').tmps[t]? =a.tmps[t]? :=by
 cases dst with
 |none=>simp only[gW,wi]at h;subst h;exact⟨ht,hs,rfl,fun _ _=>rfl⟩
 |some d=>
  simp only[gW]at h
  obtain⟨h1,h2⟩:=cr h
  simp only[Tr.force_eq,wi]at h2
  subst h2
  have hd:Nat.lt d size:=wan h1
  refine⟨fun t u hu=>?_,by rw[vj];simpa using hs,rfl,fun t qF=>?_⟩
  ·rw[vj]
   rcases Tr.dq hu with⟨rfl,rfl⟩|⟨h3,h4⟩
   ·exact⟨v',by rw[wb7 (by rw[hs];exact hd)],hv⟩
   ·obtain⟨u',h5,h6⟩:=ht t u h4
    exact⟨u',by rw[wa8 (fun h=>h3 h.symm)];exact h5,h6⟩
  ·rw[vj,wa8 (fun h=>qF (by rw[h]))]
theorem LQ{m:Match}{T:Tr Value}{a:Act}{ops:Array Oper}{o:Oper}{b:Bool}(h:wantedA T ops.toList o=some b)(ht:fy m T a.tmps):Region.wanted o (yielded ops a.tmps)=b:=by
 unfold wantedA at h
 unfold Region.wanted
 cases hg:o.guard with
 |none=>rw[hg]at h;simpa using h
 |some jw=>
  obtain⟨j,want⟩:=jw
  rw[hg]at h
  simp only at h⊢
  cases hd:(ops.toList[j]?).bind (·.dst)with
  |none=>rw[hd]at h;simp at h
  |some d=>
   rw[hd]at h
   have jk:(ops[j]?).bind (·.dst)=some d:=by simpa using hd
   simp only at h
   cases hT:T.get d with
   |none=>rw[hT]at h;simp at h
   |some v=>
    rw[hT]at h
    obtain⟨v',h1,h2⟩:=ht d v hT
    simp only[yielded,jk,wo,h1]
    cases h2<;>simp only[reduceCtorEq,wi]at h<;>subst h
    ·rename_i x;cases x<;>cases want<;>rfl
    ·rfl
end
section
variable{B lo0:Nat}{m:Match}{w:World}{P:Program}
theorem xX{ro:Option Nat}{o:Oper}{a:Act}{P:Program}{w:World}:∀ f,o.about P w a.eval=some f→(fj ro).fn f:=fun _ _=>trivial
end
section
variable[Maps]{B lo0:Nat}{m:Match}{H:Heap}{w:World}{E:Env}
theorem FV{call:dc}{T:Tr Value}{o:Oper}{r:Value×Heap}(h:exOp E call T o H=some r)(c:Call):o.op≠ .defer c:=fun hc=>by
 unfold exOp at h
 simp[hc]at h
theorem CI(hE:EnvOk E){call:dc}(hc:qm B lo0 E call)(hR:Rel B lo0 m H w){T:Tr Value}{a:Act}(ht:fy m T a.tmps){o:Oper}{v:Value}{H':Heap}(h:exOp E call T o H=some (v,H'))
  {next:Act→World→Prop} {Q:Exit→Act→World→Prop} {ro:Option Nat} (hn:∀ v' w' m',Good B lo0 m H w m' H' w'→VRel m' v v'→next (a.put o.dst v') w'):o.wpIn (fj ro) 0 E.P a w next Q:=by
 refine⟨xX,?_⟩
 rw[Oper.semAt_eq _ _ _ (FV h)]
 exact UpTo.uponIn (LZ hE hc hR ht h) fun v' w' ⟨m',h1,h2⟩=>hn v' w' m' h1 h2
theorem CZ(hE:EnvOk E){call:dc}(hc:qm B lo0 E call){ops:Array Oper}{Q:Exit→Act→World→Prop}{ro:Option Nat}{size:Nat}:∀ (rest:List Oper) (k:Nat),(∀j,rest[j]? =ops[k+j]?)→
  ∀(T:Tr Value) (H:Heap) (T':Tr Value) (H':Heap) (a:Act) (w:World) (m:Match),exOps E call ops.toList size rest T H=some (T',H')→Rel B lo0 m H w→fy m T a.tmps→a.tmps.size=size→
  (∀a' w' m',Good B lo0 m H w m' H' w'→fy m' T' a'.tmps→a'.tmps.size=size→a'.defers=a.defers→(∀t,(∀o∈rest,o.dst≠some t)→a'.tmps[t]? =a.tmps[t]?)→Q .normal a' w')→
  wpOpsIn (fj ro) 0 E.P ops Q (List.range' k rest.length) a w
 |[],k,_,T,H,T',H',a,w,m,h,hR,ht,hs,hq=>by
  simp only[exOps,wi,wk]at h
  obtain⟨rfl,rfl⟩:=h
  exact hq a w m (.refl hR) ht hs rfl fun _ _=>rfl
 |o::rest,k,hk,T,H,T',H',a,w,m,h,hR,ht,hs,hq=>by
  have ho:ops[k]? =some o:=by simpa using(hk 0).symm
  have gZ:∀ j,rest[j]? =ops[k+1+j]? :=fun j=>by rw[show k+1+j=k+(j+1) by omega,←hk (j+1)];simp
  simp only[wY,List.range'_succ,wpOpsIn,ho]
  simp only[exOps,ub]at h
  cases hw:wantedA T ops.toList o with
  |none=>rw[hw]at h;simp at h
  |some b=>
   rw[hw]at h
   rw[LQ hw ht]
   cases b with
   |true=>
    simp only[we]at h
    obtain⟨r,h1,T1,h2,h3⟩:=h
    simp only[wah]
    refine CI hE hc hR ht h1 fun v' w' m' hg hv=>?_
    obtain⟨p1,p2,p3,p4⟩:=Cu (a:=a) h2 (ht.mono hg.le) hs hv
    refine CZ hE hc rest (k+1) gZ T1 r.2 T' H' _ w' m' h3 hg.rel p1 p2 fun a' fE rF iv q1 q2 q3 q4=>?_
    exact hq a' fE rF (hg.trans iv) q1 q2 (q3.trans p3) fun t AG=>(q4 t fun o' bG=>AG o' (wM _ bG)).trans (p4 t (AG o (wW ..)))
   |false=>
    simp only[we]at h
    obtain⟨T1,h2,h3⟩:=h
    simp only[wG,waa]
    refine⟨xX,?_⟩
    obtain⟨p1,p2,p3,p4⟩:=Cu (a:=a) h2 ht hs (Fm m)
    refine CZ hE hc rest (k+1) gZ T1 H T' H' _ w m h3 hR p1 p2 fun a' fE rF iv q1 q2 q3 q4=>?_
    exact hq a' fE rF iv q1 q2 (q3.trans p3) fun t AG=>(q4 t fun o' bG=>AG o' (wM _ bG)).trans (p4 t (AG o (wW ..)))
theorem VY(hE:EnvOk E){call:dc}(hc:qm B lo0 E call){id:Nat}{ops:Array Oper}{fr:Fr}{T':Tr Value}{H':Heap}{a:Act}{ro:Option Nat}(hR:Rel B lo0 m H w)(hf:gG m fr a ro)
  (h:exOps E call ops.toList fr.size ops.toList fr.T H=some (T',H')):
  (Code.region id ops false).wpIn (fj ro) 0 E.P (fU B lo0 m H w (.region id ops false) a ro .normal {T:=T',size:=fr.size,marks:=fr.marks,round:=fr.round} H') a w:=by
 apply wpIn_region
 rw[wcL,show ops.size=ops.toList.length by simp]
 refine CZ hE hc ops.toList 0 (fun j=>by simp) fr.T H T' H' a w m h hR hf.tmps hf.size fun a' w' m' hg q1 q2 q3 q4=>?_
 refine⟨rfl,m',hg,⟨q1,q2,by rw[q3];exact hf.marks.mono hg.le,hf.round⟩,fun t ht=>q4 t fun o ho hd=>ht ?_⟩
 simp only[writesOf,wcz]
 exact⟨o,ho,hd⟩
theorem Wi(hE:EnvOk E)(hR:Rel B lo0 m H w){t:TypeId}{x x' v:Value}(h:loadV E H t x=some v)(hx:VRel m x x'):∃ v',(do loadVar t (←asAddr x'):Sem Value).run E.P w= .ok v' w∧VRel m v v':=by
 obtain⟨v',h1,h2⟩:=Mc hE hR h hx
 refine⟨v',?_,h2⟩
 unfold loadV at h
 split at h
 ·cases hx with
  |ptr hm=>simpa only[Instr.loadAt,Instr.sureAddr,asAddr,wB,wC,wu]using h1
 ·simp at h
theorem resultsV_run(hE:EnvOk E)(hR:Rel B lo0 m H w){T:Tr Value}{tmps:Array Value}(ht:fy m T tmps):∀ {l:List ResultVar} {vs:List Value},resultsV E H T l=some vs→
  ∃fh,(l.mapM (m:=Sem) fun
   | .tmp t=>pure (tmps.getD t undef)
   | .cell a t=>do loadVar t (←asAddr (tmps.getD a undef))).run E.P w= .ok fh w∧LRel m vs fh
 |[],vs,h=>by
  simp only[resultsV,wi]at h
  subst h
  exact⟨[],rfl,.nil m⟩
 | .tmp t::l,vs,h=>by
   simp only[resultsV,we,wi]at h
   obtain⟨v,h1,r,h2,rfl⟩:=h
   obtain⟨fh,h3,h4⟩:=resultsV_run hE hR ht h2
   obtain⟨v',h5,h6⟩:=ht t v h1
   refine⟨v'::fh,?_,.cons h6 h4⟩
   have:tmps.getD t undef=v':=by simp[wax,h5]
   simp only[List.mapM_cons,wB,wC,wu,this,h3]
 | .cell x t::l,vs,h=>by
   simp only[resultsV,we,wi]at h
   obtain⟨xv,h1,v,h2,r,h3,rfl⟩:=h
   obtain⟨fh,h4,h5⟩:=resultsV_run hE hR ht h3
   obtain⟨x',h6,h7⟩:=ht x xv h1
   obtain⟨v',h8,h9⟩:=Wi hE hR h2 h7
   refine⟨v'::fh,?_,.cons h9 h5⟩
   have:tmps.getD x undef=x':=by simp[wax,h6]
   simp only[wB]at h8
   simp only[List.mapM_cons,wB,this,h8,wu,h4,wC]
theorem Fg(hE:EnvOk E)(hR:Rel B lo0 m H w){T:Tr Value}{tmps:Array Value}(ht:fy m T tmps){fn:Func}{vs:List Value}(h:resultsV E H T fn.results.toList=some vs):
  ∃v',(results fn tmps).run E.P w= .ok v' w∧VRel m (jH vs) v':=by
 obtain⟨fh,h1,h2⟩:=resultsV_run hE hR ht h
 have bE:(results fn tmps).run E.P w= .ok (if h:fh.toArray.size=1 then fh.toArray[0]else .tuple fh.toArray) w:=by
  unfold results
  rw[Array.mapM_eq_mapM_toList]
  simp only[wB,map_eq_pure_bind,wC]
  erw [h1]
  rfl
 refine⟨_,bE,?_⟩
 match vs,fh,h2 with
 |[],fh,h2=>rw[h2.mI];exact .uW (.nil m)
 |[v],fh,h2=>
  obtain⟨v',r,rfl,h3,h4⟩:=h2.oz
  rw[h4.mI]
  exact h3
 |v₁::v₂::l,fh,h2=>
  have:¬ fh.toArray.size=1:=by
   have:=h2.1
   simp at this ⊢;omega
  rw[dif_neg this]
  exact .uW h2
theorem Wj(hR:Rel B lo0 m H w){r:Nat}{p:dV}{o:AObj}{O:Obj}{H':Heap}(hm:m r=some p)(hr:H.lo≤r)(ho:H.objs.get r=some o)(fK:∀ c g t,o≠ .row c g t)
  (hn:H'.next=H.next) (hl:H'.lo=H.lo) (hg:H'.grps=H.grps) (hd:H'.objs=H.objs.del r):Good B lo0 m H w m H' (dR w p.ax O):=by
 refine Good.eD hR (o':= .map []) hm hr ho hn hl (fun j x hx=>?_) (fun g l h=> .inl (by rw[hg]at h;exact h)) (fun j q x hj hq hx hb=>?_) (fun c g t h=>by cases h) (fun h=>?_) (fun b hb=>uR _ hb) (xL _) ⟨rfl,rfl⟩
 ·rw[hd]at hx
  exact .inr (Tr.jm hx)
 ·rw[hd]at hx
  have h1:=hR.sep r j p q o x (fun h=>hj h.symm) (wK hR.lo hr) hm hq ho (Tr.jm hx).2 hb.symm
  cases o with
  |row c g t=>exact fK c g t rfl
  |_=>exact h1
 ·rw[hd]at h
  exact absurd rfl (Tr.jm h).1
theorem Cv{P:Program}{fn:Func}{tmps:Array Value}{R:Ending→World→Prop}:∀ (marks:List Nat) (defers:List Deferred) (H:Heap) (w:World) (t:Tr AObj),mT m marks defers→Rel B lo0 m H w→
  killMarks H.lo H.objs marks=some t→(∀w',Good B lo0 m H w m {objs:=t,grps:=H.grps,next:=H.next,lo:=H.lo} w'→LeavesIn Fence.wide 0 P fn tmps R [] .returning w')→LeavesInM Fence.wide 0 P fn tmps R defers .returning w
 |[],[],H,w,t,_,hR,hk,hq=>by
  simp only[killMarks,wi]at hk
  subst hk
  exact hq w (.refl hR)
 |r::marks,d::defers,H,w,t,⟨⟨p,h1,h2⟩,h3⟩,hR,hk,hq=>by
  simp only[killMarks]at hk
  cases ho:H.objs.get r with
  |none=>rw[ho]at hk;simp at hk
  |some o=>
   rw[ho]at hk
   cases o<;>simp only[reduceCtorEq]at hk
   obtain⟨h4,h5⟩:=cr hk
   have aj:H.lo≤r:=by simpa using h4
   have hb:w.heap[p.ax]? =some (.deferred (some [])):=hR.obj r p _ h1 ho
   have hg:=Wj (O:= .deferred none) (H':={objs:=H.objs.del r,grps:=H.grps,next:=H.next,lo:=H.lo}) hR h1 aj ho (fun c g t h=>by cases h) rfl rfl rfl rfl
   refine⟨by simp,.inl ⟨p.ax,dR w p.ax (.deferred none),h2,?_,?_⟩⟩
   ·simp only[Instr.takeDeferred,wB,iu hb (fun c e f h=>by cases h),wu,ql hb (fun c e f h=>by cases h),wC]
   ·exact Cv marks defers _ _ t h3 hg.rel h5 fun w' qy=>hq w' (hg.trans qy)
end
variable[Maps]{H H' kv:Heap}{E:Env}
structure dC(H H':Heap):Prop where
 lo:H'.lo=H.lo
 ag:H.next≤H'.next
 low:∀ r o,r<H.lo→H'.objs.get r=some o→H.objs.get r=some o
theorem dC.refl(H:Heap):dC H H:=⟨rfl,wy _,fun _ _ _ h=>h⟩
theorem dC.trans(h:dC H H')(h':dC H' kv):dC H kv:=
 ⟨h'.lo.trans h.lo,wK h.ag h'.ag,fun r o hr ho=>h.low r o hr (h'.low r o (by rw[h.lo];exact hr) ho)⟩
theorem dC.ok(h:dC H H')(hl:H.lo≤H.next):H'.lo≤H'.next:=by rw[h.lo];exact wK hl h.ag
theorem Gj(hl:H.lo≤H.next)(o:AObj):dC H (H.add o):=by
 refine⟨vw H o,by rw[ja];omega,fun r x hr hx=>?_⟩
 rcases FC hx with⟨h,_⟩|⟨_,h⟩
 ·omega
 ·exact h
theorem yc{r:Nat}(hr:H.lo≤r)(o:AObj):dC H (H.setObj r o):=by
 refine⟨by simp[Heap.setObj,Tr.force_eq],by simp[Heap.setObj,Tr.force_eq],fun j x hj hx=>?_⟩
 simp only[Heap.setObj,Tr.force_eq]at hx
 rcases Tr.dq hx with⟨h,_⟩|⟨_,h⟩
 ·omega
 ·exact h
theorem CW{r o:Nat}{new:List Value}(h:H.write r o new=some H'):dC H H':=by
 obtain⟨cells,bH,h1,_,_,_,h5,h6,h7⟩:=Heap.FO h
 refine⟨h6,by omega,fun j x hj hx=>?_⟩
 cases bH with
 |none=>
  rcases h7.1 j x hx with⟨h,_⟩|⟨_,h⟩
  ·omega
  ·exact h
 |some gz=>
  obtain⟨aS,_,h8,_⟩:=h7
  rcases h8 j x hx with⟨h,_⟩|⟨_,_,h⟩
  ·omega
  ·exact h
theorem MD{r:Nat}{es:List (Value×Value)}(h:H.po r es=some H'):dC H H':=by
 obtain⟨h1,h2,h3,_,h4⟩:=Gk h
 refine⟨h3,by omega,fun j x hj hx=>?_⟩
 rcases h4 j x hx with⟨h,_⟩|⟨_,h⟩
 ·omega
 ·exact h
theorem ME(hl:H.lo≤H.next)(z:Nat)(cells:List Value):dC H (H.dx z cells):=by
 refine⟨by simp[Heap.dx,fb,Tr.force_eq],by simp[Heap.dx,fb,Tr.force_eq],fun j x hj hx=>?_⟩
 simp only[Heap.dx,fb,Tr.force_eq]at hx
 rcases Tr.dq hx with⟨h,_⟩|⟨_,h⟩
 ·omega
 ·exact h
theorem UZ(hl:H.lo≤H.next){r:Nat}{c:List Value}{g z:Nat}{new:List Value}(hr:H.lo≤r)(h:H.grow r c g z new=some H'):dC H H':=by
 unfold Heap.grow at h
 split at h
 ·simp at h
 ·simp only[fb,Tr.force_eq,wi]at h
  subst h
  refine⟨rfl,by simp,fun j x hj hx=>?_⟩
  rcases Tr.dq hx with⟨h,_⟩|⟨_,h⟩
  ·omega
  ·rcases Tr.dq h with⟨h,_⟩|⟨_,h⟩
   ·omega
   ·exact h
theorem MF(hl:H.lo≤H.next){e:TypeId}{s v:Value}{k:Nat}{new:List Value}(h:appendV E H e s k new=some (v,H')):dC H H':=by
 unfold appendV at h
 simp only[we]at h
 obtain⟨i,_,h⟩:=h
 split at h
 ·cases hb:Nat.ble _ _ with
  |true=>rw[hb]at h;simp only[wai,wi,wk]at h;rw[←h.2];exact .refl H
  |false=>
   rw[hb]at h
   obtain⟨_,h⟩:=cM h
   simp only[wi,wk]at h
   rw[←h.2];exact ME hl _ _
 ·cases hb:Nat.ble _ _ with
  |true=>
   rw[hb]at h
   simp only[wai]at h
   cases hk:Nat.beq k 0 with
   |true=>rw[hk]at h;simp only[wai,wi,wk]at h;rw[←h.2];exact .refl H
   |false=>
    rw[hk]at h
    simp only[wS,we,wi,wk]at h
    obtain⟨H1,h1,_,rfl⟩:=h
    exact CW h1
  |false=>
   rw[hb]at h
   simp only[wS]at h
   obtain⟨_,h⟩:=cM h
   split at h
   ·simp only[we,wi,wk]at h
    obtain⟨l,_,_,rfl⟩:=h
    exact ME hl _ _
   ·obtain⟨h1,h⟩:=cr h
    simp only[we,wi,wk]at h
    obtain⟨l,_,H1,h2,_,rfl⟩:=h
    simp only[wA,wbi]at h1
    exact UZ hl h1.1.1.2 h2
   ·simp at h
 ·simp at h
theorem U0{t:TypeId}{x k:Value}(h:zH E H t x k=some H'):dC H H':=by
 simp only[zH,we]at h
 obtain⟨i,_,h⟩:=h
 split at h
 ·obtain⟨_,h⟩:=cM h
  simp only[we]at h
  obtain⟨p,_,f,_,h⟩:=h
  split at h
  ·obtain⟨g1,g2,g3,g4,g5⟩:=MG h
   exact⟨g3,by omega,fun r o hr ho=>by
    rcases g5 r o ho with⟨rfl,_⟩|⟨_,h⟩
    ·omega
    ·exact h⟩
  ·simp only[wi]at h
   rw[←h];exact .refl _
 ·simp at h
theorem U1(hl:H.lo≤H.next){b:Builtin}{ts:List TypeId}{args:List Value}{v:Value}(h:builtinV E H b ts args=some (v,H')):dC H H':=by
 have still:∀ {x:Value},some (x,H)=some (v,H')→dC H H':=fun h=>by
  simp only[wi,wk]at h
  rw[←h.2];exact .refl H
 unfold builtinV at h
 split at h
 ·simp only[we]at h
  obtain⟨i,_,h⟩:=h
  split at h<;>first|exact still h|(split at h<;>first|exact still h|simp at h)|simp at h
 ·simp only[we]at h
  obtain⟨x,_,h⟩:=h
  exact still h
 ·simp only[we]at h
  obtain⟨x,_,h⟩:=h
  exact still h
 ·simp only[we]at h
  obtain⟨i,_,i',_,h⟩:=h
  split at h
  ·split at h
   ·simp only[we]at h
    obtain⟨n,_,l,_,j,_,h⟩:=h
    exact MF hl (cr h).2
   ·simp only[we]at h
    obtain⟨n,_,l,_,h⟩:=h
    exact MF hl h
   ·simp at h
  ·simp at h
 ·simp only[we]at h
  obtain⟨i,_,h⟩:=h
  split at h
  ·simp only[we]at h
   obtain⟨z,_,l,_,h⟩:=h
   split at h
   ·exact still h
   ·simp only[we,wi,wk]at h
    obtain⟨H1,h1,_,rfl⟩:=h
    exact CW h1
   ·simp at h
  ·simp at h
 ·simp only[we,wi,wk]at h
  obtain⟨H1,h1,_,rfl⟩:=h
  exact U0 h1
 ·simp only[we]at h
  obtain⟨i,_,h⟩:=h
  split at h
  ·exact still h
  ·simp only[we,wi,wk]at h
   obtain⟨l,_,H1,h1,_,rfl⟩:=h
   exact CW h1
  ·simp at h
 ·simp at h
def nL(call:dc):Prop:=∀ f args H v H',H.lo≤H.next→call f args H=some (v,H')→dC H H'
theorem zK{call:dc}(hc:nL call)(hl:H.lo≤H.next){T:Tr Value}{o:Oper}{v:Value}(h:exOp E call T o H=some (v,H')):dC H H':=by
 have still:∀ {x:Value},some (x,H)=some (v,H')→dC H H':=fun h=>by
  simp only[wi,wk]at h
  rw[←h.2];exact .refl H
 have add:∀ {x:Value} {ob:AObj},some (x,H.add ob)=some (v,H')→dC H H':=fun h=>by
  simp only[wi,wk]at h
  rw[←h.2];exact Gj hl _
 unfold exOp at h
 cases ho:o.op with
 |store t x y=>
  simp only[ho,we,wi,wk]at h
  obtain⟨u,h1,u2,h2,H2,h3,rfl,rfl⟩:=h
  unfold tH at h3
  split at h3
  ·simp only[we]at h3
   obtain⟨n,_,h3⟩:=h3
   exact CW (cr h3).2
  ·simp at h3
 |mapUpdate t x k y=>
  simp only[ho,we,wi,wk]at h
  obtain⟨u,h1,u2,h2,u3,h3,H2,h4,rfl,rfl⟩:=h
  unfold mapUpdateV at h4
  simp only[we]at h4
  obtain⟨i,_,h4⟩:=h4
  split at h4
  ·obtain⟨_,h4⟩:=cM h4
   split at h4
   ·simp only[we]at h4
    obtain⟨f,_,h4⟩:=h4
    split at h4
    ·exact MD h4
    ·exact MD h4
   ·simp at h4
  ·simp at h4
 |makeSlice t l c=>
  simp only[ho,we]at h
  obtain⟨u,h1,u2,h2,h3⟩:=h
  unfold makeSliceV at h3
  simp only[we]at h3
  obtain⟨i,_,h3⟩:=h3
  split at h3
  ·split at h3
   ·simp only[we]at h3
    obtain⟨j,_,z,_,h3⟩:=h3
    exact add (cr h3).2
   ·simp at h3
  ·simp at h3
 |call c=>
  simp only[ho,we]at h
  obtain⟨args,h1,h⟩:=h
  cases ln:c.callee with
  |builtin b=>simp only[ln]at h;exact U1 hl h
  |value f=>
   simp only[ln,we]at h
   obtain⟨fv,h2,h3⟩:=h
   exact hc _ _ _ _ _ hl h3
  |invoke x name=>
   simp only[ln,we]at h
   obtain⟨xv,h2,mm,h3,h4⟩:=h
   exact hc _ _ _ _ _ hl h4
 |buildSlice t len parts=>
  simp only[ho,we]at h
  obtain⟨i,h1,h⟩:=h
  split at h
  ·simp only[we]at h
   obtain⟨j,_,z,_,h⟩:=h
   obtain⟨_,h⟩:=cM h
   simp only[we]at h
   obtain⟨ps,_,l,_,h⟩:=h
   exact add h
  ·simp at h
 |range t x=>
  simp only[ho,we]at h
  obtain⟨u,h1,i,h2,ob,_,h⟩:=h
  exact add h
 |next it str=>
  cases str with
  |false=>
   simp only[ho,we]at h
   obtain⟨u,h1,h⟩:=h
   unfold nextG at h
   split at h
   ·split at h
    ·obtain⟨hb,h⟩:=cM h
     split at h
     ·obtain⟨_,h⟩:=cM h
      split at h
      ·exact still h
      ·obtain⟨_,h⟩:=cr h
       simp only[wi,wk]at h
       rw[←h.2]
       exact yc (by simpa using hb) _
      ·simp at h
     ·simp at h
    ·simp at h
   ·simp at h
  |true=>
   simp only[ho,we]at h
   obtain⟨u,h1,h⟩:=h
   unfold nextV at h
   split at h
   ·split at h
    ·obtain⟨hb,h⟩:=cM h
     split at h
     ·exact still h
     ·simp only[fb,wi,wk]at h
      rw[←h.2]
      exact yc (by simpa using hb) _
    ·simp at h
   ·simp at h
 |alloc t=>
  simp only[ho,we]at h
  obtain⟨i,_,z,_,h⟩:=h
  exact add h
 |box t x=>
  simp only[ho,we]at h
  obtain⟨i,_,h⟩:=h
  exact add h
 |makeMap t r=>
  cases r with
  |none=>simp only[ho]at h;exact add h
  |some x=>simp[ho]at h
 |makeFunc fn first captured=>
  simp only[ho]at h
  split at h
  ·simp at h
  ·simp only[we]at h
   obtain⟨a,_,b,_,h⟩:=h
   exact still h
 |pick c x y=>
  simp only[ho,we]at h
  obtain⟨u,_,h⟩:=h
  split at h
  ·simp only[we]at h
   obtain⟨u,_,h⟩:=h
   exact still h
  ·simp only[we]at h
   obtain⟨u,_,h⟩:=h
   exact still h
  ·simp at h
 |nilCheck x=>
  simp only[ho,we]at h
  obtain⟨u,_,h⟩:=h
  split at h
  all_goals first
   |exact still h
   |(simp at h;done)
   |(split at h
     ·simp only[we]at h
      obtain⟨_,_,h⟩:=h
      exact still h
     ·simp at h)
 |makeInterface t x=>
  simp only[ho,we]at h
  obtain⟨u,_,i,_,h⟩:=h
  split at h<;>first|exact still h|simp at h
 |extract t ix=>
  simp only[ho,we]at h
  obtain⟨u,_,h⟩:=h
  split at h
  ·simp only[we]at h
   obtain⟨u,_,h⟩:=h
   exact still h
  ·simp at h
 |_=>
  first
  |(simp only[ho,we]at h;obtain⟨u,_,h⟩:=h;exact still h)
  |(simp only[ho,we]at h;obtain⟨u,_,u2,_,h⟩:=h;exact still h)
  |(simp only[ho,we]at h;obtain⟨u,_,u2,_,u3,_,h⟩:=h;exact still h)
  |(simp only[ho,we]at h;obtain⟨u,_,u2,_,u3,_,u4,_,u5,_,h⟩:=h;exact still h)
  |(simp[ho]at h)
theorem CX{call:dc}(hc:nL call){all:List Oper}{size:Nat}:∀ (l:List Oper) {T T':Tr Value} {H H':Heap},H.lo≤H.next→exOps E call all size l T H=some (T',H')→dC H H'
 |[],T,T',H,H',_,h=>by
  simp only[exOps,wi,wk]at h
  rw[←h.2];exact .refl H
 |o::l,T,T',H,H',hl,h=>by
  simp only[exOps,ub]at h
  split at h
  ·simp at h
  ·simp only[we]at h
   obtain⟨r,h1,T1,_,h3⟩:=h
   have h4:=zK hc hl h1
   exact h4.trans (CX hc l (h4.ok hl) h3)
  ·simp only[we]at h
   obtain⟨T1,_,h3⟩:=h
   exact CX hc l hl h3
theorem Lv(hl:H.lo≤H.next)(b:Bool)(h:dC {objs:=H.objs,grps:=H.grps,next:=H.next,lo:=bif b then H.next else H.lo} H'):dC H {objs:=H'.objs,grps:=H'.grps,next:=H'.next,lo:=H.lo}:=
 ⟨rfl,h.ag,fun r o hr ho=>h.low r o (by cases b<;>simp<;>omega) ho⟩
theorem Gl{call:dc}(hc:nL call){all:List Oper}{size:Nat}:∀ (l:List Oper) (bf:List Info) {T T':Tr Value} {H H':Heap},H.lo≤H.next→exDraw E call all size l bf T H=some (T',H')→dC H H'
 |[],_,T,T',H,H',_,h=>by
  simp only[exDraw,wi,wk]at h
  rw[←h.2];exact .refl H
 |o::l,[],T,T',H,H',hl,h=>by simp[exDraw]at h
 |o::l,i::bf,T,T',H,H',hl,h=>by
  simp only[exDraw,ub]at h
  split at h
  ·simp at h
  ·obtain⟨_,h⟩:=cr h
   simp only[we]at h
   obtain⟨r,h1,h⟩:=h
   obtain⟨_,h⟩:=cr h
   simp only[we]at h
   obtain⟨T1,_,h3⟩:=h
   have h4:=Lv hl i.grow (zK hc (by cases i.grow<;>simp<;>omega) h1)
   exact h4.trans (Gl hc l bf (h4.ok hl) h3)
  ·simp only[we]at h
   obtain⟨T1,_,h3⟩:=h
   exact Gl hc l bf hl h3
theorem U2{call:dc}(hc:nL call){ops:Array Oper}{size:Nat}{T T':Tr Value}(hl:H.lo≤H.next)(h:rJ E call ops size T H=some (T',H')):dC H H':=by
 unfold rJ at h
 obtain⟨_,h⟩:=cM h
 simp only[we]at h
 obtain⟨bf,_,r,h1,h2⟩:=h
 have h3:=(cr h2).2
 simp only[wi]at h3
 subst h3
 exact Gl hc _ bf hl h1
theorem MI{lo:Nat}:∀ {l:List Nat} {t t':Tr AObj},killMarks lo t l=some t'→∀ r o,r<lo→t'.get r=some o→t.get r=some o
 |[],t,t',h,r,o,_,ho=>by
  simp only[killMarks,wi]at h
  rw[h];exact ho
 |k::l,t,t',h,r,o,hr,ho=>by
  simp only[killMarks]at h
  split at h
  ·obtain⟨_,h⟩:=cr h
   exact(Tr.jm (MI h r o hr ho)).2
  ·simp at h
theorem MJ{l:Nat}{b:Bool}{st:LoopState}{eQ:Option Code}(hl:H.lo≤l)(h:H.setLoop l b st eQ=some H'):dC H H':=by
 unfold Heap.setLoop at h
 split at h
 ·split at h
  ·simp only[wi]at h;rw[←h];exact yc hl _
  ·simp at h
  ·simp only[wi]at h;rw[←h];exact yc hl _
 ·simp at h
def vC(run:Code→Fr→Heap→Option (Ex×Fr×Heap)):Prop:=∀ c fr H ex bq H',H.lo≤H.next→run c fr H=some (ex,bq,H')→dC H H'
theorem Gb{run:Code→Fr→Heap→Option (Ex×Fr×Heap)}(hr:vC run):nL (callBody E run):=by
 intro f args H v H' hl h
 simp only[callBody,we]at h
 obtain⟨⟨tf,targs⟩,ht,h⟩:=h
 clear ht
 simp only at h
 split at h
 ·simp only[we]at h
  obtain⟨fn,k1,h⟩:=h
  split at h
  ·simp only[we,wi,wk]at h
   obtain⟨_,_,_,rfl⟩:=h
   exact .refl _
  obtain⟨k3,h⟩:=cM h
  simp only[we]at h
  obtain⟨⟨ex,bq,H₁⟩,k4,h⟩:=h
  have h1:=hr _ _ _ _ _ _ hl k4
  have h6:∃ t,killMarks H.lo H₁.objs bq.marks=some t∧H'={objs:=t,grps:=H₁.grps,next:=H₁.next,lo:=H₁.lo}:=by
   cases ex with
   |exit id=>simp at h
   |_=>
    simp only[we,Tr.force_eq,wi,wk]at h
    obtain⟨t,a1,vs,a2,a3,a4⟩:=h
    exact⟨t,a1,a4.symm⟩
  obtain⟨t,h7,rfl⟩:=h6
  exact⟨h1.lo,h1.ag,fun r o hr ho=>h1.low r o hr (MI h7 r o hr ho)⟩
 ·rename_i l
  split at h
  ·obtain⟨k1,h⟩:=cM h
   have aj:H.lo≤l:=by simpa using k1
   simp only[we]at h
   obtain⟨T',k2,⟨cT,eo,H₁⟩,k3,h⟩:=h
   have g1:=hr _ _ _ _ _ _ hl k3
   cases cT with
   |normal=>
    simp only[we]at h
    obtain⟨H₂,k4,⟨ex,tA,H₃⟩,k5,h⟩:=h
    have g2:=g1.trans (MJ (by rw[g1.lo];exact aj) k4)
    have g3:=g2.trans (hr _ _ _ _ _ _ (g2.ok hl) k5)
    have key:∀ {b:Bool} {st:LoopState} {eQ:Option Code},H₃.setLoop l b st eQ=some H'→dC H H':=fun h=>g3.trans (MJ (by rw[g3.lo];exact aj) h)
    cases ex with
    |normal=>
     simp only[we,wi,wk]at h
     obtain⟨H₄,k6,_,rfl⟩:=h
     exact key k6
    |ret=>
     simp only[we,wi,wk]at h
     obtain⟨H₄,k6,_,rfl⟩:=h
     exact key k6
    |exit id=>
     simp only[we,wi,wk]at h
     obtain⟨H₄,k6,_,rfl⟩:=h
     exact key k6
   |_=>simp at h
  ·simp at h
 ·simp at h
theorem CY(hO:nL E.orc){run:Code→Fr→Heap→Option (Ex×Fr×Heap)}(hr:vC run):nL (fS E run):=by
 intro f args H v H' hl h
 unfold fS at h
 cases ho:E.orc f args H with
 |some r=>
  rw[ho]at h
  simp only[wi]at h
  subst h
  exact hO f args H v H' hl ho
 |none=>
  rw[ho]at h
  exact Gb hr f args H v H' hl h
theorem MK(hO:nL E.orc){run:Code→Fr→Heap→Option (Ex×Fr×Heap)}(hr:vC run){v:Value}:∀ (c:Code) {fr bq:Fr} {H H':Heap} {ex:Ex},H.lo≤H.next→runHead E run v c fr H=some (ex,bq,H')→dC H H'
 | .seq a b,fr,bq,H,H',ex,hl,h=>by
   simp only[runHead,we]at h
   obtain⟨⟨cT,eo,H₁⟩,h1,h2⟩:=h
   have g1:=MK hO hr a hl h1
   cases cT with
   |normal=>exact g1.trans (hr _ _ _ _ _ _ (g1.ok hl) h2)
   |exit id=>simp only[wi,wk]at h2;rw[←h2.2.2];exact g1
   |ret=>simp only[wi,wk]at h2;rw[←h2.2.2];exact g1
 | .region id ops d,fr,bq,H,H',ex,hl,h=>by
   simp only[runHead]at h
   split at h
   ·simp only[we,wi,wk]at h
    obtain⟨T,_,⟨T',H₁⟩,h2,_,_,rfl⟩:=h
    exact CX (CY hO hr) _ hl h2
   ·simp at h
 | .skip,_,_,_,_,_,_,h| .cond ..,_,_,_,_,_,_,h| .block ..,_,_,_,_,_,_,h| .loop ..,_,_,_,_,_,_,h| .rangeFunc ..,_,_,_,_,_,_,h| .exit ..,_,_,_,_,_,_,h| .scope ..,_,_,_,_,_,_,h
 | .label ..,_,_,_,_,_,_,h| .goto ..,_,_,_,_,_,_,h| .ret,_,_,_,_,_,_,h| .refuse ..,_,_,_,_,_,_,h=>by simp[runHead]at h
theorem U3(hO:nL E.orc){run:Code→Fr→Heap→Option (Ex×Fr×Heap)}(hr:vC run):vC (runWith E run):=by
 intro c fr H ex bq H' hl h
 have still:∀ {a:Ex} {b:Fr},some (a,b,H)=some (ex,bq,H')→dC H H':=fun h=>by
  simp only[wi,wk]at h
  rw[←h.2.2];exact .refl H
 have ky:∀ {H₁:Heap} {a:Ex} {b:Fr},dC H H₁→some (a,b,H₁)=some (ex,bq,H')→dC H H':=fun g h=>by
  simp only[wi,wk]at h
  rw[←h.2.2];exact g
 cases c with
 |skip=>exact still h
 |label l=>exact still h
 |exit id=>exact still h
 |ret=>exact still h
 |region id ops rL=>
  cases rL with
  |false=>
   simp only[runWith,we]at h
   obtain⟨⟨T',H₁⟩,h1,h2⟩:=h
   exact ky (CX (CY hO hr) _ hl h1) h2
  |true=>
   simp only[runWith,we]at h
   obtain⟨⟨T',H₁⟩,h1,h2⟩:=h
   exact ky (U2 (CY hO hr) hl h1) h2
 |seq a b=>
  simp only[runWith,we]at h
  obtain⟨⟨cT,eo,H₁⟩,h1,h2⟩:=h
  have g1:=hr _ _ _ _ _ _ hl h1
  cases cT with
  |normal=>exact g1.trans (hr _ _ _ _ _ _ (g1.ok hl) h2)
  |exit id=>exact ky g1 h2
  |ret=>exact ky g1 h2
 |cond x p q=>
  simp only[runWith,we]at h
  obtain⟨v,_,h2⟩:=h
  split at h2
  ·exact hr _ _ _ _ _ _ hl h2
  ·exact hr _ _ _ _ _ _ hl h2
  ·simp at h2
 |block id x=>
  simp only[runWith,we]at h
  obtain⟨⟨cT,eo,H₁⟩,h1,h2⟩:=h
  have g1:=hr _ _ _ _ _ _ hl h1
  cases cT with
  |exit i=>
   simp only at h2
   cases hb:Nat.beq i id with
   |true=>rw[hb]at h2;exact ky g1 h2
   |false=>rw[hb]at h2;exact ky g1 h2
  |normal=>exact ky g1 h2
  |ret=>exact ky g1 h2
 |loop a=>
  simp only[runWith]at h
  split at h
  ·rename_i U4 _
   cases hg:xR fr.T H U4 with
   |true=>
    rw[hg]at h
    simp only[wai]at h
    unfold zJ at h
    simp only[we]at h
    obtain⟨⟨cT,eo,H₁⟩,h1,h2⟩:=h
    have g1:=hr _ _ _ _ _ _ hl h1
    cases cT with
    |normal=>
     simp only[we]at h2
     obtain⟨⟨Gm,tA,H₂⟩,h3,h4⟩:=h2
     have g2:=g1.trans (hr _ _ _ _ _ _ (g1.ok hl) h3)
     cases Gm with
     |normal=>simp at h4
     |exit id=>exact ky g2 h4
     |ret=>exact ky g2 h4
    |exit id=>exact ky g1 h2
    |ret=>exact ky g1 h2
   |false=>
   rw[hg]at h
   simp only[wS]at h
   unfold mapLoop at h
   simp only[Tr.force_eq,we]at h
   obtain⟨it,_,h⟩:=h
   split at h
   ·split at h
    ·simp only[we]at h
     obtain⟨es,_,h⟩:=h
     obtain⟨k,h⟩:=cM h
     simp only[we]at h
     obtain⟨o,_,h⟩:=h
     cases o with
     |some vs=>
      simp only[wi,wk]at h
      obtain⟨rfl,rfl,rfl⟩:=h
      exact⟨rfl,wy _,fun r o hr ho=>(Tr.jm ho).2⟩
     |none=>
     simp only[we]at h
     obtain⟨⟨cT,eo,H₁⟩,h1,h2⟩:=h
     simp only[wbM,waM,wbi]at k
     have g1:=MK (E:=E) hO hr _ (H:={objs:=H.objs.del _,grps:=H.grps,next:=H.next,lo:=H.lo}) hl h1
     have g2:dC H H₁:=⟨g1.lo,g1.ag,fun r o hr ho=>(Tr.jm (g1.low r o hr ho)).2⟩
     cases cT with
     |normal=>simp at h2
     |exit id=>exact ky g2 h2
     |ret=>exact ky g2 h2
    ·simp at h
   ·simp at h
  ·simp only[we]at h
   obtain⟨⟨cT,eo,H₁⟩,h1,h2⟩:=h
   have g1:=hr _ _ _ _ _ _ hl h1
   cases cT with
   |normal=>exact g1.trans (hr _ _ _ _ _ _ (g1.ok hl) h2)
   |exit id=>exact ky g1 h2
   |ret=>exact ky g1 h2
 |scope x=>exact hr _ _ _ _ _ _ hl h
 |rangeFunc g ps assign body=>
  simp only[runWith]at h
  split at h
  ·simp at h
  ·simp only[we]at h
   obtain⟨gv,_,h⟩:=h
   unfold rangeV at h
   simp only at h
   split at h
   ·simp only[we]at h
    obtain⟨⟨rv,H₃⟩,h2,h3⟩:=h
    have g1:=Gj hl .defers
    have g2:=g1.trans (Gj (g1.ok hl) (.loop .ready none fr.size fr.T ps.toList assign body H.next))
    have g3:=g2.trans (Gb hr _ _ _ _ _ (g2.ok hl) h2)
    have aj:H₃.lo≤(H.add .defers).next:=by rw[g3.lo,ja];omega
    simp only at h3
    split at h3
    ·split at h3
     ·simp at h3
     ·split at h3
      ·exact ky (g3.trans (yc aj _)) h3
      ·have g4:∀ o,dC H (H₃.setObj (H.add .defers).next o):=fun o=>g3.trans (yc aj o)
       split at h3
       ·exact(g4 _).trans (hr _ _ _ _ _ _ ((g4 _).ok hl) h3)
       ·exact(g4 _).trans (hr _ _ _ _ _ _ ((g4 _).ok hl) h3)
       ·simp at h3
    ·simp at h3
   ·simp at h
 |_=>simp[runWith]at h
theorem Gc(hO:nL E.orc):∀ n,vC (run E n)
 |0=>fun c fr H ex bq H' _ h=>by simp[run]at h
 |n+1=>U3 hO (Gc hO n)
end Go.AM
namespace Go.AM
section
variable[Maps]{B lo0:Nat}{m:Match}{H:Heap}{w:World}{E:Env}
theorem Fc{p:dV}{wr:Bool}{st:LoopState}{eQ:Option Code}{size:Nat}{T:Tr Value}{ps:List Tmp}{as bo:Code}{de:Nat}(ho:iZ wr m p w (.loop st eQ size T ps as bo de)):
  ∃l:Loop,w.heap[p.ax]? =some (.loop l)∧l.state=st∧l.pending=eQ∧l.tmps.size=size∧fy m T l.tmps∧l.params.toList=ps∧l.assign=as∧l.body=bo:=ho
theorem K7(hR:Rel B lo0 m H w){l:Nat}{p:dV}{ready:Bool}{st:LoopState}{eQ:Option Code}{H':Heap}(hm:m l=some p)(hl:H.lo≤l)(h:H.setLoop l ready st eQ=some H'):
  ∃L:Loop,w.heap[p.ax]? =some (.loop L)∧(ready=true→L.state= .ready)∧Good B lo0 m H w m H' (dR w p.ax (.loop {L with state:=st,pending:=bif ready then L.pending else eQ})):=by
 unfold Heap.setLoop at h
 split at h
 ·rename_i K8 Fe size T ps as bo de ho
  obtain⟨L,h1,h2,h3,h4,h5,h6,h7,h8⟩:=Fc (hR.obj l p _ hm ho)
  have hb:p.ax<w.heap.size:=(hR.dom l p hm).2.1
  have key:∀ Cs,Good B lo0 m H w m (H.setObj l (.loop st Cs size T ps as bo de)) (dR w p.ax (.loop {L with state:=st,pending:=Cs})):=fun Cs=>by
   refine Good.exchange hR hm hl ho (fun c g t h=>by cases h) (fun c g t h=>by cases h) (o':= .loop st Cs size T ps as bo de) ?_ ?_ ?_ (fun j x hx=>?_) ⟨_,nK _ hb,rfl,rfl,h4,h5,h6,h7,h8⟩
   ·simp[Heap.setObj,Tr.force_eq]
   ·simp[Heap.setObj,Tr.force_eq]
   ·simp[Heap.setObj,Tr.force_eq]
   ·simp only[Heap.setObj,Tr.force_eq]at hx
    exact Tr.dq hx
  split at h
  ·simp only[wi]at h
   subst h
   refine⟨L,h1,fun _=>h2,?_⟩
   have:=key Fe
   rw[←h3]at this
   exact h3▸this
  ·simp at h
  ·simp only[wi]at h
   subst h
   exact⟨L,h1,fun h=>Bool.noConfusion h,key eQ⟩
 ·simp at h
end
section
variable{B lo0:Nat}{m:Match}{w:World}{P:Program}
theorem Ct{P:Program}{b:Nat}{L:Loop}(h:w.heap[b]? =some (.loop L)):(Instr.getLoop b).run P w= .ok L w:=by
 simp only[Instr.getLoop,wB,iu h (fun c e f h=>by cases h),wu,wC]
theorem SE{P:Program}{b:Nat}{L:Loop}(h:w.heap[b]? =some (.loop L))(hs:L.state= .ready):(Instr.beginRound b).run P w= .ok () (dR w b (.loop {L with state:= .busy,pending:=L.pending})):=by
 simp only[Instr.beginRound,wB,Ct h,wu,ql h (fun c e f h=>by cases h),hs,wC]
theorem Ff{P:Program}{b:Nat}{L:Loop}(h:w.heap[b]? =some (.loop L))(jump:Option Code):
  (Instr.endRound b jump).run P w= .ok (.bool jump.isNone) (dR w b (.loop {L with state:=if jump.isNone then .ready else .done,pending:=jump})):=by
 simp only[Instr.endRound,wB,Ct h,wu,ql h (fun c e f h=>by cases h),wC]
end
section
variable[Maps]{B lo0:Nat}{m:Match}{H:Heap}{w:World}{E:Env}
theorem K9{m:Match}{size:Nat}:∀ {ps:List Tmp} {vs fh:List Value} {T T':Tr Value} {tmps:Array Value},paramsT size ps vs T=some T'→LRel m vs fh→fy m T tmps→tmps.size=size→
  ps.length=vs.length∧fy m T' ((ps.zip fh).foldl (fun tmps (x:Tmp×Value)=>tmps.setIfInBounds x.1 x.2) tmps)∧((ps.zip fh).foldl (fun tmps (x:Tmp×Value)=>tmps.setIfInBounds x.1 x.2) tmps).size=size
 |[],[],fh,T,T',tmps,h,hv,ht,hs=>by
  simp only[paramsT,wi]at h
  subst h
  exact⟨rfl,by simpa using ht,by simpa using hs⟩
 |p::ps,v::vs,fh,T,T',tmps,h,hv,ht,hs=>by
  obtain⟨v',r,rfl,h1,h2⟩:=hv.oz
  simp only[paramsT]at h
  obtain⟨h3,h4⟩:=cr h
  have SF:gW size T (some p) v=some (T.set p v):=by simp[gW,h3,Tr.force_eq]
  obtain⟨q1,q2,_,_⟩:=Cu (a:={tmps:=tmps,defers:=[]}) SF ht hs h1
  obtain⟨e1,e2,e3⟩:=K9 h4 h2 q1 q2
  exact⟨by simp[e1],e2,e3⟩
 |[],_::_,_,_,_,_,h,_,_,_=>by simp[paramsT]at h
 |_::_,[],_,_,_,_,h,_,_,_=>by simp[paramsT]at h
theorem SG(hE:EnvOk E){run:Code→Fr→Heap→Option (Ex×Fr×Heap)}(bE:oA E run){g:FuncId}{fn:Func}{c:Code}{args:List Value}{bF:Array Value}{ex:Ex}{bq:Fr}{H₁:Heap}{t:Tr AObj}{vs:List Value}
  (h1:E.fn.get g=some fn) (h2:fn.body=some c) (h3:args.length≤fn.ntmps) (h4:run c {T:=Tr.of args,size:=fn.ntmps,marks:=[],round:=none} H=some (ex,bq,H₁)) (h5:∀ id,ex≠ .exit id)
  (h6:killMarks H.lo H₁.objs bq.marks=some t) (h7:resultsV E {objs:=t,grps:=H₁.grps,next:=H₁.next,lo:=H₁.lo} bq.T fn.results.toList=some vs) (hR:Rel B lo0 m H w) (ha:LRel m args bF.toList):
  iG B lo0 E m H w (jH vs) {objs:=t,grps:=H₁.grps,next:=H₁.next,lo:=H₁.lo} ((callFunc g bF).run E.P w):=by
 have hf:=hE.fn g fn h1
 have SH:(fn.name== "runtime.NumGoroutine")=false:=hE.num g fn h1
 have gF:(callFunc g bF).run E.P w= .ok (.enter g bF) w:=by
  simp only[callFunc,wB,run_program,wu,hf,SH,h2,wG,waa,Option.isNone_some,wC]
 rw[iG,gF]
 show CallsIn Fence.wide 0 E.P g bF w _
 refine wcQ hf h2 trivial ?_
 have cQ:gG m {T:=Tr.of args,size:=fn.ntmps,marks:=[],round:=none} {tmps:=bF++Array.replicate (fn.ntmps-bF.size) undef,defers:=[]} none:=by
  refine⟨fun t v hv=>?_,?_,trivial,fun _=>rfl⟩
  ·obtain⟨v',e1,e2⟩:=ha.get (Tr.zE hv)
   have:t<bF.size:=by simpa using(wD.1 e1).1
   exact⟨v',by rw[wcb this];simpa using e1,e2⟩
  ·have:=ha.1
   simp at this ⊢;omega
 refine waJ (bE c _ H ex bq H₁ h4 B lo0 m _ w none hR cQ) fun e a' w' hp=>?_
 obtain⟨rfl,m',hg,La,_⟩:=hp
 have tz:LeavesInM Fence.wide 0 E.P fn a'.tmps (fun e fE=>∃ v,e= .returned v∧∃ rF,Good B lo0 m H w rF {objs:=t,grps:=H₁.grps,next:=H₁.next,lo:=H₁.lo} fE∧VRel rF (jH vs) v) a'.defers .returning w':=by
  rw[←hg.lo]at h6
  refine Cv bq.marks a'.defers H₁ w' t La.marks hg.rel h6 fun fE iv=>?_
  obtain⟨v',r1,r2⟩:=Fg hE iv.rel La.tmps h7
  exact⟨v',r1,v',rfl,m',hg.trans iv,r2⟩
 cases ex with
 |normal=>exact tz
 |ret=>exact tz
 |exit id=>exact absurd rfl (h5 id)
theorem Fh{run:Code→Fr→Heap→Option (Ex×Fr×Heap)}(bE:oA E run){l:Nat}{p:dV}{eQ:Option Code}{size:Nat}{T T':Tr Value}{ps:List Tmp}{assign body:Code}{de:Nat}{args:List Value}{bF:Array Value}
  {eo tA:Fr} {H₁ H₂ H₃ H₄:Heap} {ex:Ex} {b:Bool} {st:LoopState} {jump:Option Code}
  (hm:m l=some p) (hl:H.lo≤l) (h1:H.objs.get l=some (.loop .ready eQ size T ps assign body de)) (h2:paramsT size ps args T=some T') (h3:run assign {T:=T',size,marks:=[],round:=some l} H=some (.normal,eo,H₁))
  (h4:H₁.setLoop l true .busy none=some H₂) (h5:run body eo H₂=some (ex,tA,H₃)) (h6:H₃.setLoop l false st jump=some H₄)
  (hj:(ex= .normal∧jump=none∧b=true∧st= .ready)∨(ex= .ret∧jump=some .ret∧b=false∧st= .done)∨(∃id,ex= .exit id∧jump=some (.exit id)∧b=false∧st= .done))
  (hR:Rel B lo0 m H w) (ha:LRel m args bF.toList):iG B lo0 E m H w (.bool b) H₄ ((Instr.yield p.ax bF).run E.P w):=by
 obtain⟨L,e1,_,_,e4,e5,e6,e7,e8⟩:=Fc (hR.obj l p _ hm h1)
 obtain⟨f1,f2,f3⟩:=K9 h2 ha e5 e4
 have bh:¬ bF.size≠L.params.size:=by
  have:=ha.1
  rw[←e6]at f1
  simp at this f1 ⊢;omega
 have gF:(Instr.yield p.ax bF).run E.P w= .ok (.round p.ax L.fn ((L.params.zip bF).foldl (fun tmps (t,a)=>tmps.setIfInBounds t a) L.tmps) L.assign L.body) w:=by
  simp only[Instr.yield,wB,Ct e1,wu,bh,waa,wC]
 rw[iG,gF]
 show RoundIn Fence.wide 0 E.P _ _ _ _ _ w _
 have Cw:((L.params.zip bF).foldl (fun tmps (x:Tmp×Value)=>tmps.setIfInBounds x.1 x.2) L.tmps)=(ps.zip bF.toList).foldl (fun tmps (x:Tmp×Value)=>tmps.setIfInBounds x.1 x.2) L.tmps:=by
  rw[←wcA,Array.toList_zip,e6]
 refine roundIn_of_wpIn trivial ?_
 rw[e7,e8]
 have cQ:gG m {T:=T',size,marks:=[],round:=some l} {tmps:=(L.params.zip bF).foldl (fun tmps (t,a)=>tmps.setIfInBounds t a) L.tmps,defers:=[]} (some p.ax):=by
  refine⟨?_,?_,trivial,fun h=>by cases h⟩
  ·show fy m T' ((L.params.zip bF).foldl (fun tmps (x:Tmp×Value)=>tmps.setIfInBounds x.1 x.2) L.tmps)
   rw[Cw];exact f2
  ·show((L.params.zip bF).foldl (fun tmps (x:Tmp×Value)=>tmps.setIfInBounds x.1 x.2) L.tmps).size=size
   rw[Cw];exact f3
 refine waJ (bE assign _ H .normal eo H₁ h3 B lo0 m _ w (some p.ax) hR cQ) fun e a₁ w₁ hp=>?_
 obtain⟨rfl,m₁,tB,SI,_⟩:=hp
 have Lb:=tB.le _ _ hm
 obtain⟨L₁,g1,g2,Fi⟩:=K7 tB.rel Lb (by rw[tB.lo];exact hl) h4
 refine⟨_,SE g1 (g2 rfl),?_⟩
 refine waJ (bE body eo H₂ ex tA H₃ h5 B lo0 m₁ a₁ _ (some p.ax) Fi.rel SI) fun e a₂ w₂ hp=>?_
 obtain⟨rfl,m₂,mK,zhZ,_⟩:=hp
 have SJ:=mK.le _ _ Lb
 obtain⟨L₂,k1,_,Cx⟩:=K7 mK.rel SJ (by rw[mK.lo,Fi.lo,tB.lo];exact hl) h6
 have tC:=(tB.trans Fi).trans (mK.trans Cx)
 rcases hj with⟨rfl,rfl,rfl,rfl⟩|⟨rfl,rfl,rfl,rfl⟩|⟨id,rfl,rfl,rfl,rfl⟩
 ·exact⟨_,_,Ff k1 none,.bool true,rfl,m₂,tC,.bool true⟩
 ·exact⟨_,_,Ff k1 (some .ret),.bool false,rfl,m₂,tC,.bool false⟩
 ·exact⟨_,_,Ff k1 (some (.exit id)),.bool false,rfl,m₂,tC,.bool false⟩
theorem SK(hE:EnvOk E){t:TypeId}{i:TI}{e:TypeId}(h:E.ty.get t=some i)(hd:i.desc= .pointer e){path:Array FieldStep}(hp:path.toList=[])(x:Value)(w:World):(receiverVia t x path true).run E.P w= .ok x w:=by
 simp only[receiverVia,hp,follow,wB,wC,wu,receiverAt,hE.desc h hd,Place.get]
end
section
theorem Lc{name origin:String}{a b:List Value}{f:Fn}{x y:Array Value}:nativeV name origin (a++[.func f x y]++b)=none:=by
 unfold nativeV
 cases(name== "internal/bytealg.IndexByteString" &&origin== "")with
 |false=>rfl
 |true=>
  simp only[wai]
  split
  ·rename_i s c h
   exfalso
   have hm:Value.func f x y∈[Value.string s,Value.int .u8 c]:=by rw[←h];simp
   simp at hm
  ·rfl
theorem idxOf_eq(s:ByteArray)(c:UInt8):∀ (m k:Nat),k+m=s.size→idxOf c.toNat (s.data.toList.drop k) k=match(List.range' k m).find? (fun i=>s[i]! ==c)with|some i=>(i:Int)|none=> -1
 |0,k,h=>by
  have:s.data.toList.drop k=[]:=waO (by rw[waF];show s.size≤k;omega)
  rw[this];rfl
 |m+1,k,h=>by
  have hk:k<s.size:=by omega
  have gZ:k<s.data.toList.length:=by rw[waF];exact hk
  rw[wX gZ,List.range'_succ,List.find?_cons]
  have hg:s[k]! =s.data.toList[k]:=by
   rw[getElem!_pos s k hk,wcM]
   rfl
  simp only[idxOf]
  rw[hg]
  cases hb:Nat.beq (s.data.toList[k]).toNat c.toNat with
  |true=>
   have:(s.data.toList[k]==c)=true:=by
    rw[wbO]
    exact UInt8.toNat_inj.1 (by simpa using hb)
   rw[this];rfl
  |false=>
   have:(s.data.toList[k]==c)=false:=by
    rw[beq_eq_false_iff_ne]
    rintro h
    rw[h]at hb
    simp at hb
   rw[this]
   exact idxOf_eq s c m (k+1) (by omega)
theorem SM(s:ByteArray)(c:Int):idxOf (c.toNat%256) s.data.toList 0=firstIdx s c.toNat.toUInt8:=by
 have:=idxOf_eq s c.toNat.toUInt8 s.size 0 (by omega)
 rw[waZ]at this
 unfold firstIdx
 rw[wcL]
 exact this
theorem SN{fn:Func}(hn:fn.name= "internal/bytealg.IndexByteString")(ho:fn.origin= ""):Extern.findNext fn=none∧Extern.find fn=some Extern.BytealgIndexByte.indexByte:=by
 obtain⟨name,origin,targs,params,resultTypes,nfree,ntmps,results,body,norace,ours,file,endLine,litNo,met,tmpNames⟩:=fn
 simp only at hn ho
 subst hn ho
 exact⟨by kernel_rfl,by kernel_rfl⟩
end
section
variable[Maps]{B lo0:Nat}{m:Match}{H:Heap}{w:World}{E:Env}
theorem SO(hE:EnvOk E){g:FuncId}{fn:Func}{args:List Value}{bF:Array Value}{v:Value}(h1:E.fn.get g=some fn)(h2:fn.body=none)(h:nativeV fn.name fn.origin args=some v)(hR:Rel B lo0 m H w)(ha:LRel m args bF.toList):
  iG B lo0 E m H w v H ((callFunc g bF).run E.P w):=by
 unfold nativeV at h
 obtain⟨hb,h⟩:=cr h
 simp only[wA,wbO]at hb
 split at h
 ·rename_i s c _
  simp only[rG,wi]at h
  subst h
  obtain⟨e1,e2⟩:=SN hb.1 hb.2
  obtain⟨x,r,hx,x1,x2⟩:=ha.oz
  obtain⟨y,r',rfl,y1,y2⟩:=x2.oz
  have ct:=y2.mI
  subst ct
  cases x1
  cases y1
  have hargs:bF= #[.string s,.int .u8 c]:=by rw[←wbW];exact hx
  subst hargs
  have gF:=run_callFunc_extern (hE.fn g fn h1) (hE.num g fn h1) (by rw[h2];rfl) e1 e2 #[.string s,.int .u8 c] w
  rw[run_indexByte_string,wu]at gF
  rw[iG,gF,SM]
  exact⟨m,.refl hR,.int _ _⟩
 ·simp at h
theorem Fj(hE:EnvOk E){run:Code→Fr→Heap→Option (Ex×Fr×Heap)}(bE:oA E run):qm B lo0 E (callBody E run):=by
 intro f args H v H' h m w f' bF hf ha hR
 simp only[callBody,we]at h
 obtain⟨⟨tf,targs⟩,h1,h⟩:=h
 have Fk:∀ (g:FuncId) (l:List Value) (l':Array Value),tf= .func g→targs=l→LRel m l l'.toList→iG B lo0 E m H w v H' ((callFunc g l').run E.P w):=by
  intro g l l' e1 e2 hl
  subst e1 e2
  simp only[we]at h
  obtain⟨fn,k1,h⟩:=h
  split at h
  ·rename_i hb
   simp only[we,wi,wk]at h
   obtain⟨v₀,h,rfl,rfl⟩:=h
   exact SO hE k1 hb h hR hl
  rename_i c k2
  obtain⟨k3,h⟩:=cM h
  simp only[we]at h
  obtain⟨⟨ex,bq,H₁⟩,k4,h⟩:=h
  have h5:∀ id,ex≠ .exit id:=fun id he=>by subst he;simp at h
  have h6:∃ t,killMarks H.lo H₁.objs bq.marks=some t∧∃ vs,resultsV E {objs:=t,grps:=H₁.grps,next:=H₁.next,lo:=H₁.lo} bq.T fn.results.toList=some vs∧v=jH vs∧H'={objs:=t,grps:=H₁.grps,next:=H₁.next,lo:=H₁.lo}:=by
   cases ex with
   |exit id=>exact absurd rfl (h5 id)
   |_=>
    simp only[we,Tr.force_eq,wi,wk]at h
    obtain⟨t,a1,vs,a2,a3,a4⟩:=h
    exact⟨t,a1,vs,a2,a3.symm,a4.symm⟩
  obtain⟨t,a1,vs,a2,rfl,rfl⟩:=h6
  exact SG hE bE k1 k2 (by simpa using k3) k4 h5 a1 a2 hR hl
 unfold target at h1
 split at h1
 ·rename_i g first captured
  simp only[wi,wk]at h1
  cases hf with
  |func cQ pe tD ra rb=>
   rename_i f₁ gk qn
   simp only[FnRel]at cQ
   subst cQ
   simp only[Deferred.ofValue,wB,wC,wu,invoke]
   exact Fk g _ _ h1.1.symm h1.2.symm (by simpa using LRel.append (LRel.append ⟨pe,ra⟩ ha) ⟨tD,rb⟩)
 ·rename_i l first captured
  simp only[wi,wk]at h1
  obtain⟨rfl,rfl⟩:=h1
  cases hf with
  |func cQ pe tD ra rb=>
   rename_i f₁ gk qn
   obtain⟨p,hm,rfl⟩:=cQ
   have pg:LRel m (first.toList++args) (gk++bF).toList:=by simpa using LRel.append ⟨pe,ra⟩ ha
   simp only[Deferred.ofValue,wB,wC,wu,invoke]
   simp only at h
   split at h
   ·rename_i eQ size T ps assign body de dn
    obtain⟨k1,h⟩:=cM h
    have aj:H.lo≤l:=by simpa using k1
    simp only[we]at h
    obtain⟨T',k2,⟨cT,eo,H₁⟩,k3,h⟩:=h
    cases cT with
    |normal=>
     simp only[we]at h
     obtain⟨H₂,k4,⟨ex,tA,H₃⟩,k5,h⟩:=h
     cases ex with
     |normal=>
      simp only[we,wi,wk]at h
      obtain⟨H₄,k6,rfl,rfl⟩:=h
      exact Fh bE hm aj dn k2 k3 k4 k5 k6 (.inl ⟨rfl,rfl,rfl,rfl⟩) hR pg
     |ret=>
      simp only[we,wi,wk]at h
      obtain⟨H₄,k6,rfl,rfl⟩:=h
      exact Fh bE hm aj dn k2 k3 k4 k5 k6 (.inr (.inl ⟨rfl,rfl,rfl,rfl⟩)) hR pg
     |exit id=>
      simp only[we,wi,wk]at h
      obtain⟨H₄,k6,rfl,rfl⟩:=h
      exact Fh bE hm aj dn k2 k3 k4 k5 k6 (.inr (.inr ⟨id,rfl,rfl,rfl,rfl⟩)) hR pg
    |_=>simp at h
   ·simp at h
 ·rename_i t path g pt first captured
  obtain⟨k1,eg⟩:=cr h1
  clear h1
  simp only[wA,List.isEmpty_iff]at k1
  obtain⟨⟨k1,k2⟩,k3⟩:=k1
  subst k2
  cases hf with
  |func cQ pe tD ra rb=>
   rename_i f₁ gk qn
   simp only[FnRel]at cQ
   subst cQ
   have hl:LRel m (first.toList++args) (gk++bF).toList:=by simpa using LRel.append ⟨pe,ra⟩ ha
   cases hc:first.toList++args with
   |nil=>rw[hc]at eg;simp at eg
   |cons x l=>
    rw[hc]at eg hl
    simp only[wi,wk]at eg
    obtain⟨x',r',e1,e2,e3⟩:=hl.oz
    have hi:∃ i e,E.ty.get t=some i∧i.desc= .pointer e:=by
     split at k3
     ·rename_i i hi
      split at k3
      ·rename_i e he
       exact⟨i,e,hi,he⟩
      ·simp at k3
     ·simp at k3
    obtain⟨i,e,hi,hd⟩:=hi
    have h0:(gk++bF)[0]? =some x':=by rw[←wao,e1];rfl
    have hx: #[x']++(gk++bF).extract 1 (gk++bF).size=gk++bF:=by
     apply wcJ
     have bh:(gk++bF).size=r'.length+1:=by rw[←waF,e1];rfl
     rw[bh,wbV,Array.toList_extract,e1,List.extract_eq_take_drop]
     simp
    have:=Fk g _ (gk++bF) eg.1.symm eg.2.symm (by rw[e1];exact .cons e2 e3)
    simpa only[Deferred.ofValue,wB,wC,wu,invoke,h0,SK hE hi hd k1,hx]using this
 ·rename_i name first captured
  cases hf with
  |func cQ pe tD ra rb=>
   rename_i f₁ gk qn
   simp only[FnRel]at cQ
   subst cQ
   have hl:LRel m (first.toList++args) (gk++bF).toList:=by simpa using LRel.append ⟨pe,ra⟩ ha
   cases hc:first.toList++args with
   |nil=>rw[hc]at h1;simp at h1
   |cons x l=>
    rw[hc]at h1 hl
    simp only[we,wi,wk]at h1
    obtain⟨⟨g,rv⟩,h2,h3,h4⟩:=h1
    obtain⟨x',r',e1,e2,e3⟩:=hl.oz
    obtain⟨t,u,tE,f1,f2,f3⟩:=Ld hE h2 e2
    have h0:(gk++bF)[0]? =some x':=by rw[←wao,e1];rfl
    have hx:(#[tE]++(gk++bF).extract 1 (gk++bF).size).toList=tE::r':=by
     have bh:(gk++bF).size=r'.length+1:=by rw[←waF,e1];rfl
     rw[bh,wbV,Array.toList_extract,e1,List.extract_eq_take_drop]
     simp
    have:=Fk g _ (#[tE]++(gk++bF).extract 1 (gk++bF).size) h3.symm h4.symm (by rw[hx];exact .cons f3 e3)
    have hP:(program:Sem Program).run E.P w= .ok E.P w:=rfl
    subst f1
    simpa only[Deferred.ofValue,wB,wC,wu,invoke,h0,callMethod,hP,show E.P.types.size+Made.depth=(E.P.types.size+99)+1 from rfl,f2]using this
 ·simp at h1
structure OrcOk(E:Env):Prop where
 Cy:∀ B lo0,qm B lo0 E E.orc
 low:nL E.orc
theorem OrcOk.none{P:Program}:OrcOk (Env.of P):=⟨fun _ _ _ _ _ _ _ h=>(by cases h),fun _ _ _ _ _ _ h=>(by cases h)⟩
theorem Fl(hE:EnvOk E)(hO:OrcOk E){run:Code→Fr→Heap→Option (Ex×Fr×Heap)}(bE:oA E run):qm B lo0 E (fS E run):=by
 intro f args H v H' h
 unfold fS at h
 cases ho:E.orc f args H with
 |some r=>
  rw[ho]at h
  simp only[wi]at h
  subst h
  exact hO.Cy B lo0 f args H v H' ho
 |none=>
  rw[ho]at h
  exact Fj hE bE f args H v H' h
end
section
variable[Maps]{H H':Heap}{E:Env}
theorem LB{v:Value}{t:Tmp}:∀ {l:List Tmp} {T:Tr Value},(dropAll l T).get t=some v→t∉l∧T.get t=some v
 |[],T,h=>⟨by simp,h⟩
 |x::l,T,h=>by
  obtain⟨h1,h2⟩:=LB (l:=l) h
  obtain⟨h3,h4⟩:=Tr.jm h2
  exact⟨by simp[h1,h3],h4⟩
theorem LC{t:Tmp}(ht:Maps.low t):∀ {l:List Tmp} {T:Tr Value},t∉l→(dropAll l T).get t=T.get t
 |[],T,h=>rfl
 |x::l,T,h=>by
  simp only[wad,not_or]at h
  rw[dropAll,LC ht h.2,Tr.vB h.1 ht]
end
section
variable{B lo0:Nat}{m:Match}{w:World}{P:Program}
theorem LD{t:Tmp}:∀ {l:List Operand},Operand.tmp t∈l→t∈tmpsOf l
 |x::l,h=>by
  rcases wad.1 h with h|h
  ·subst h;simp[tmpsOf]
  ·have:=LD h
   cases x<;>simp[tmpsOf,this]
end
section
variable[Maps]{H H':Heap}{E:Env}
theorem CV{T T':Tr Value}:∀ {l:List Operand},(∀x∈l,ev T x=ev T' x)→evs T l=evs T' l
 |[],_=>rfl
 |x::l,h=>by
  simp only[evs,h x (wW ..),CV fun y hy=>h y (wM _ hy)]
theorem Gh{T T':Tr Value}{place:Nat→Option (Nat×Nat)}:∀ {l:List (Nat×Operand)},(∀p∈l,ev T p.2=ev T' p.2)→evParts T place l=evParts T' place l
 |[],_=>rfl
 |(i,x)::l,h=>by
  have h1:=h (i,x) (wW ..)
  simp only at h1
  simp only[evParts,h1,Gh fun y hy=>h y (wM _ hy)]
theorem Gi{T T':Tr Value}{x:Option Operand}(h:∀ y,x=some y→ev T y=ev T' y):evO T x=evO T' x:=by
 cases x with
 |none=>rfl
 |some y=>simp only[evO,h y rfl]
theorem UY{T T':Tr Value}{t:TypeId}{l:List (Nat×Operand)}(h:∀ p∈l,ev T p.2=ev T' p.2):gm E T t l=gm E T' t l:=by
 simp only[gm,Gh h]
theorem TL{call:dc}{T T':Tr Value}{o:Oper}(h:∀ x∈o.op.operands.toList,ev T x=ev T' x):exOp E call T o H=exOp E call T' o H:=by
 unfold exOp
 cases ho:o.op<;>simp only[ho,Op.operands,Call.operands]at h
 case build t ps=>simp only[UY (E:=E) (t:=t) (l:=ps.toList) fun p hp=>h p.2 (List.mem_map_of_mem hp)]
 case buildSlice t n ps=>
  have:∀ pl,evParts T pl ps.toList=evParts T' pl ps.toList:=fun pl=>Gh fun p hp=>h p.2 (List.mem_map_of_mem hp)
  simp only[this]
 case makeFunc fn a b=>simp only[CV (l:=a.toList) fun x hx=>h x (by rw[wbV];exact waI.2 (.inl hx)),CV (l:=b.toList) fun x hx=>h x (by rw[wbV];exact waI.2 (.inr hx))]
 case slice t x l hi m=>simp only[h x (by simp),Gi (x:=l) fun y hy=>h y (by simp[hy]),Gi (x:=hi) fun y hy=>h y (by simp[hy]),Gi (x:=m) fun y hy=>h y (by simp[hy])]
 case makeMap t r=>cases r<;>rfl
 case next x b=>cases b<;>simp only[h x (by simp)]
 case call c=>
  simp only[CV (l:=c.args.toList) fun x hx=>h x (by rw[wbV];exact waI.2 (.inr hx))]
  cases hc:c.callee with
  |builtin b=>rfl
  |value f=>simp only[h f (by simp[hc])]
  |invoke x m=>simp only[h x (by simp[hc])]
 all_goals first
  |rfl
  |(rename_i x;simp only[h x (by simp)];done)
  |(rename_i x y;simp only[h x (by simp),h y (by simp)];done)
  |(rename_i x y;simp only[h x (by simp)];done)
  |(rename_i x y;simp only[h y (by simp)];done)
  |(rename_i x y z;simp only[h x (by simp),h y (by simp),h z (by simp)];done)
  |(rename_i x y z;simp only[h y (by simp),h z (by simp)];done)
  |(rename_i x y z;simp only[h x (by simp),h y (by simp)];done)
  |(rename_i x y z;simp only[h y (by simp)];done)
  |(rename_i x y z u;simp only[h y (by simp),h z (by simp),h u (by simp)];done)
  |(rename_i x y z u;simp only[h y (by simp),h z (by simp)];done)
theorem Ly{call:dc}{T:Tr Value}{o:Oper}{v:Value}(hk:kindOf o.op= .pure)(h:exOp E call T o H=some (v,H')):H'=H∧∀ Hx,exOp E call T o Hx=some (v,Hx):=by
 unfold exOp at h⊢
 cases ho:o.op<;>simp only[ho,kindOf,reduceCtorEq]at hk h⊢
 case convert s d x=>
  cases hb:Nat.beq s BT with
  |true=>rw[hb]at hk;cases hk
  |false=>
   simp only[nM,hb,we,wi,wk,wS]at h⊢
   obtain⟨u,h1,u2,h2,rfl,rfl⟩:=h
   simp[h1,h2]
 case pick c a b=>
  simp only[we]at h
  obtain⟨u,h1,h⟩:=h
  simp only[h1,wo]
  split at h
  all_goals first
   |(simp only[we,wi,wk]at h;obtain⟨u,h2,rfl,rfl⟩:=h;simp[h2])
   |simp at h
 case nilCheck x=>
  simp only[we]at h
  obtain⟨u,h1,h⟩:=h
  simp only[h1,wo]
  split at h
  all_goals first
   |(simp only[wi,wk]at h;obtain⟨rfl,rfl⟩:=h;simp)
   |(simp at h;done)
   |(split at h
     ·simp only[we,wi,wk]at h
      obtain⟨mm,h2,rfl,rfl⟩:=h
      simp[*]
     ·simp at h)
 case makeInterface t x=>
  simp only[we]at h
  obtain⟨u,h1,i,h2,h⟩:=h
  simp only[h1,h2,wo]
  split at h
  ·simp at h
  ·simp at h
  ·simp only[wi,wk]at h;obtain⟨rfl,rfl⟩:=h;simp
 case makeFunc fn a b=>
  cases fn<;>simp only[we,wi,wk,reduceCtorEq]at h⊢
  all_goals(obtain⟨u,h1,u2,h2,rfl,rfl⟩:=h;simp[h1,h2])
 case extract t i=>
  simp only[we]at h
  obtain⟨u,h1,h⟩:=h
  simp only[h1,wo]
  split at h
  ·simp only[we,wi,wk]at h;obtain⟨u,h2,rfl,rfl⟩:=h;simp[h2]
  ·simp at h
 case call c=>
  simp only[we]at h
  obtain⟨args,h1,h⟩:=h
  simp only[h1,wo]
  cases hc:c.callee with
  |value f=>simp[hc]at hk
  |invoke x m=>simp[hc]at hk
  |builtin b=>
   simp only[hc]at hk h⊢
   cases b<;>simp only[reduceCtorEq]at hk
   ·unfold builtinV at h⊢
    cases args with
    |nil=>simp at h
    |cons x l=>
     simp only[we,wi,wk]at h⊢
     obtain⟨u,h2,rfl,rfl⟩:=h;simp[h2]
   ·unfold builtinV at h⊢
    cases args with
    |nil=>simp at h
    |cons x l=>
     simp only[we,wi,wk]at h⊢
     obtain⟨u,h2,rfl,rfl⟩:=h;simp[h2]
 all_goals first
  |(simp at h;done)
  |(simp only[we,wi,wk]at h;obtain⟨u,h1,rfl,rfl⟩:=h;simp[h1];done)
  |(simp only[we,wi,wk]at h;obtain⟨u,h1,u2,h2,rfl,rfl⟩:=h;simp[h1,h2];done)
  |(simp only[we,wi,wk]at h;obtain⟨u,h1,u2,h2,u3,h3,rfl,rfl⟩:=h;simp[h1,h2,h3];done)
def ve(o:AObj):Prop:=∀ c g t,o≠ .row c (some g) t
theorem Ti{call:dc}{T:Tr Value}{o:Oper}{v:Value}(hk:kindOf o.op= .alloc)(h:exOp E call T o H=some (v,H')):
  ∃ob,ve ob∧H'=H.add ob∧∀ Hx,Hx.next=H.next→exOp E call T o Hx=some (v,Hx.add ob):=by
 have row:∀ {x:Value} {cells:List Value},some (x,H.newRow cells)=some (v,H')→v=x∧ve (.row cells none true)∧H'=H.add (.row cells none true):=fun h=>by
  simp only[wi,wk]at h
  exact⟨h.1.symm,fun c g t h=>by simp at h,h.2.symm⟩
 unfold exOp at h⊢
 cases ho:o.op<;>simp only[ho,kindOf,reduceCtorEq]at hk h⊢
 case convert s d x=>cases hb:Nat.beq s BT<;>rw[hb]at hk<;>cases hk
 case alloc t=>
  simp only[we]at h
  obtain⟨i,h1,z,h2,h⟩:=h
  obtain⟨rfl,h3,h4⟩:=row h
  exact⟨_,h3,h4,fun Hx hx=>by simp only[h1,h2,wo,hx];rfl⟩
 case box t x=>
  simp only[we]at h
  obtain⟨i,h1,h⟩:=h
  obtain⟨rfl,h3,h4⟩:=row h
  exact⟨_,h3,h4,fun Hx hx=>by simp only[h1,wo,hx];rfl⟩
 case buildSlice t len parts=>
  simp only[we]at h
  obtain⟨i,h1,h⟩:=h
  simp only[h1,wo]
  split at h
  ·rename_i e hd
   simp only[we]at h
   obtain⟨j,h2,z,hz,h⟩:=h
   obtain⟨hb,h⟩:=cM h
   simp only[we]at h
   obtain⟨ps,h6,l,h7,h⟩:=h
   obtain⟨rfl,h3,h4⟩:=row h
   refine⟨_,h3,h4,fun Hx hx=>?_⟩
   simp only[h2,hz,wo,hb,wS,h6,h7,hx];rfl
  ·simp at h
 case makeMap t r=>
  cases r with
  |some x=>simp at h
  |none=>
   simp only[wi,wk]at h⊢
   obtain⟨rfl,rfl⟩:=h
   exact⟨_,fun c g t h=>by simp at h,rfl,fun Hx hx=>⟨by rw[hx],rfl⟩⟩
 case makeSlice t l c=>
  simp only[we]at h
  obtain⟨u,h1,u2,h2,h⟩:=h
  simp only[h1,h2,wo]
  unfold makeSliceV at h⊢
  simp only[we]at h
  obtain⟨i,h3,h⟩:=h
  simp only[h3,wo]
  split at h
  ·rename_i e k1 l1 k2 c1 hd
   cases l1 with
   |negSucc n=>simp at h
   |ofNat l1=>
    cases c1 with
    |negSucc n=>simp at h
    |ofNat c1=>
     simp only[we]at h
     obtain⟨j,h5,z,h6,h⟩:=h
     obtain⟨hb,h⟩:=cr h
     obtain⟨rfl,h7,h8⟩:=row h
     refine⟨_,h7,h8,fun Hx hx=>?_⟩
     simp only[h5,h6,wo,hb,wai,hx];rfl
  ·simp at h
 case call c=>
  cases hc:c.callee with
  |builtin b=>cases b<;>simp[hc]at hk
  |_=>simp[hc]at hk
def rowOfV:Value→Option Nat
 | .pointer (some a)=>some a.block
 | .slice (some a) _ _=>some a.block
 | .map (some r)=>some r
 |_=>none
def loadsFrom:Op→Option Operand
 | .load _ x=>some x
 | .lookup _ x _ _=>some x
 | .slice _ x _ _ _=>some x
 | .call c=>c.args.toList.head?
 |_=>none
end
section
variable{B lo0:Nat}{m:Match}{w:World}{P:Program}
theorem TR{o:Op}{x:Operand}(h:loadsFrom o=some x):x∈o.operands.toList:=by
 cases o<;>simp only[loadsFrom,reduceCtorEq,wi]at h
 ·subst h;simp[Op.operands]
 ·subst h;simp[Op.operands]
 ·subst h;simp[Op.operands]
 ·rename_i c
  simp only[Op.operands,Call.operands,wbV,waI]
  exact .inr (List.mem_of_head? h)
end
section
variable[Maps]{H H':Heap}{E:Env}
theorem FB{call:dc}{T:Tr Value}{o:Oper}{v:Value}(hk:kindOf o.op= .load)(h:exOp E call T o H=some (v,H')):
  H'=H∧((∀Hx,exOp E call T o Hx=some (v,Hx))∨∃ x u r ob,loadsFrom o.op=some x∧ev T x=some u∧rowOfV u=some r∧H.objs.get r=some ob∧∀ Hx:Heap,Hx.objs.get r=some ob→exOp E call T o Hx=some (v,Hx)):=by
 unfold exOp at h⊢
 cases ho:o.op<;>simp only[ho,kindOf,reduceCtorEq]at hk h⊢
 case convert s d x=>cases hb:Nat.beq s BT<;>rw[hb]at hk<;>cases hk
 case load t x=>
  simp only[we,wi,wk]at h
  obtain⟨u,h1,u2,h2,rfl,rfl⟩:=h
  refine⟨rfl,.inr ?_⟩
  unfold loadV at h2
  split at h2
  ·rename_i r o'
   split at h2
   ·rename_i cells g t' hr
    refine⟨x,_,r,_,rfl,h1,rfl,hr,fun Hx hx=>?_⟩
    simp only[h1,wo,loadV,hx,h2]
   ·simp at h2
  ·simp at h2
 case lookup t x k ok=>
  simp only[we,wi,wk]at h
  obtain⟨u,h1,u3,h3,u2,h2,rfl,rfl⟩:=h
  refine⟨rfl,?_⟩
  simp only[h1,h3,wo]
  unfold lookupV at h2⊢
  simp only[we]at h2
  obtain⟨i,h4,h2⟩:=h2
  simp only[h4,wo]
  split at h2
  ·rename_i kt et hd
   obtain⟨hb,h2⟩:=cM h2
   simp only[we]at h2
   obtain⟨es,h5,h2⟩:=h2
   have ez:=we.2 h2
   split at h5
   ·simp only[wi]at h5
    subst h5
    left
    intro Hx
    simp only[hb,wS,wo,ez]
   ·rename_i r
    split at h5
    ·rename_i bm hr
     simp only[wi]at h5
     subst h5
     right
     refine⟨x,_,r,_,rfl,h1,rfl,hr,fun Hx hx=>?_⟩
     simp only[hb,wS,hx,wo,ez]
    ·rename_i bm c' hr
     simp only[wi]at h5
     subst h5
     right
     refine⟨x,_,r,_,rfl,h1,rfl,hr,fun Hx hx=>?_⟩
     simp only[hb,wS,hx,wo,ez]
    ·simp at h5
   ·simp at h5
  ·simp at h2
 case slice t x lo hi mx=>
  simp only[we,wi,wk]at h
  obtain⟨u,h1,u2,h2,u3,h3,u4,h4,u5,h5,rfl,rfl⟩:=h
  refine⟨rfl,?_⟩
  simp only[h1,h2,h3,h4,wo]
  unfold sliceV at h5⊢
  simp only[we]at h5
  obtain⟨i,h6,h5⟩:=h5
  simp only[h6,wo]
  split at h5
  ·left
   intro Hx
   simp[h5]
  ·rename_i r o' len cap hd
   obtain⟨hb,h5⟩:=cM h5
   simp only[we]at h5
   obtain⟨b,h7,z,h8,h5⟩:=h5
   split at h5
   ·rename_i hr
    refine .inr ⟨x,_,r,_,rfl,h1,rfl,hr,fun Hx hx=>?_⟩
    simp only[hb,wS,h7,h8,hx,wo,h5]
   ·rename_i hr
    refine .inr ⟨x,_,r,_,rfl,h1,rfl,hr,fun Hx hx=>?_⟩
    simp only[hb,wS,h7,h8,hx,wo,h5]
   ·simp at h5
  ·left
   intro Hx
   simp[h5]
  ·rename_i r o' hd
   simp only[we]at h5
   obtain⟨b,h7,z,h8,h5⟩:=h5
   split at h5
   ·rename_i hr
    refine .inr ⟨x,_,r,_,rfl,h1,rfl,hr,fun Hx hx=>?_⟩
    simp only[h7,h8,hx,wo,h5]
   ·simp at h5
  ·simp at h5
 case call c=>
  cases hc:c.callee with
  |value f=>simp[hc]at hk
  |invoke x m=>simp[hc]at hk
  |builtin b=>
   cases b<;>simp only[hc,reduceCtorEq]at hk
   simp only[hc,we]at h⊢
   obtain⟨args,h1,h⟩:=h
   unfold builtinV at h⊢
   cases mS:c.argTypes.toList with
   |nil=>rw[mS]at h;simp at h
   |cons t tl=>
    cases args with
    |nil=>rw[mS]at h;simp at h
    |cons x l=>
     rw[mS]at h
     simp only[we]at h
     obtain⟨i,h2,h⟩:=h
     simp only[h1]
     have hx:∃ y,loadsFrom (.call c)=some y∧ev T y=some x:=by
      simp only[loadsFrom]
      cases ha:c.args.toList with
      |nil=>rw[ha]at h1;simp[evs]at h1
      |cons y ys=>
       rw[ha]at h1
       simp only[evs,we,wi,wbQ]at h1
       obtain⟨u,h3,r,_,rfl,_⟩:=h1
       exact⟨y,rfl,h3⟩
     split at h
     ·simp only[wi,wk]at h;obtain⟨rfl,rfl⟩:=h;exact⟨rfl,.inl fun Hx=>by simp[*]⟩
     ·simp only[wi,wk]at h;obtain⟨rfl,rfl⟩:=h;exact⟨rfl,.inl fun Hx=>by simp[*]⟩
     ·simp only[wi,wk]at h;obtain⟨rfl,rfl⟩:=h;exact⟨rfl,.inl fun Hx=>by simp[*]⟩
     ·simp only[wi,wk]at h;obtain⟨rfl,rfl⟩:=h;exact⟨rfl,.inl fun Hx=>by simp[*]⟩
     ·rename_i r _
      split at h
      ·rename_i es hr
       simp only[wi,wk]at h
       obtain⟨rfl,rfl⟩:=h
       obtain⟨y,MC,yb⟩:=hx
       exact⟨rfl,.inr ⟨y,_,r,_,MC,yb,rfl,hr,fun Hx hx=>by simp[*]⟩⟩
      ·simp at h
     ·simp at h
end
section
variable[Maps]{E:Env}
def dG(ops:Array Oper)(i j:Nat):Prop:=((Region.before ops).toList.getD i 0).testBit j=true
end
section
variable{B lo0:Nat}{m:Match}{w:World}{P:Program}
theorem NP(acc:Array Nat)(j:Nat):∀ (l:List Edge) (s:Nat),(l.foldl (fun s e=>if Region.binds .any e then s|||2^e.on|||acc.getD e.on 0 else s) s).testBit j=true→
  s.testBit j=true∨∃ e∈l,Region.binds .any e=true∧(e.on=j∨(acc.getD e.on 0).testBit j=true)
 |[],s,h=> .inl h
 |e::l,s,h=>by
  rcases NP acc j l _ h with h1|⟨e',h1,h2⟩
  ·dsimp only at h1
   split at h1
   ·rename_i hb
    simp only[Nat.testBit_or,wbR,wcR,wT]at h1
    rcases h1 with(h1|h1)|h1
    ·exact .inl h1
    ·exact .inr ⟨e,wW ..,hb,.inl h1⟩
    ·exact .inr ⟨e,wW ..,hb,.inr h1⟩
   ·exact .inl h1
  ·exact .inr ⟨e',wM _ h1,h2⟩
end
section
variable[Maps]{E:Env}
def pD(acc:Array Nat)(o:Oper):Array Nat:=acc.push (o.after.foldl (fun s e=>if Region.binds .any e then s|||2^e.on|||acc.getD e.on 0 else s) 0)
end
section
variable{B lo0:Nat}{m:Match}{w:World}{P:Program}
theorem NQ{A:Array Nat}{o:Oper}{k:Nat}(h:k<A.size):(pD A o).getD k 0=A.getD k 0:=by
 unfold pD
 rw[wax,wax,wbD,wI (by omega)]
theorem NR{A:Array Nat}{k j:Nat}(h:(A.getD k 0).testBit j=true):k<A.size:=by
 apply Nat.lt_of_not_le
 intro cp
 rw[wax,Array.getElem?_eq_none cp]at h
 simp at h
theorem NS{A:Array Nat}{o:Oper}{k j:Nat}(h:(A.getD k 0).testBit j=true):((pD A o).getD k 0).testBit j=true:=by
 rw[NQ (NR h)];exact h
theorem VZ{A:Array Nat}{o:Oper}{j:Nat}(h:((pD A o).getD A.size 0).testBit j=true):∃ e∈o.after.toList,Region.binds .any e=true∧(e.on=j∨(A.getD e.on 0).testBit j=true):=by
 unfold pD at h
 rw[wax,wbD,wF rfl,wbr,←wcA]at h
 rcases NP A j _ _ h with h|h
 ·simp at h
 ·exact h
end
section
variable[Maps]{E:Env}
def sd(l:List Oper)(A:Array Nat):Prop:=A.size=l.length∧∀ i j,(A.getD i 0).testBit j=true→∃ o,l[i]? =some o∧∃ e∈o.after.toList,Region.binds .any e=true∧(e.on=j∨(A.getD e.on 0).testBit j=true)
end
section
variable{B lo0:Nat}{m:Match}{w:World}{P:Program}
theorem sd.step{l:List Oper}{A:Array Nat}(h:sd l A)(o:Oper):sd (l++[o]) (pD A o):=by
 obtain⟨h1,h2⟩:=h
 refine⟨by simp[pD,h1],fun i j kp=>?_⟩
 by_cases hi:i<A.size
 ·rw[NQ hi]at kp
  obtain⟨o',h3,e,h4,h5,h6⟩:=h2 i j kp
  exact⟨o',by rw[waf (by omega)];exact h3,e,h4,h5,h6.imp id NS⟩
 ·by_cases eh:i=A.size
  ·subst eh
   obtain⟨e,h4,h5,h6⟩:=VZ kp
   exact⟨o,by rw[h1,waB (wy _)];simp,e,h4,h5,h6.imp id NS⟩
  ·have:=NR kp
   simp[pD]at this
   omega
theorem sd.all:∀ (l l':List Oper) (A:Array Nat),sd l A→sd (l++l') (l'.foldl pD A)
 |l,[],A,h=>by simpa using h
 |l,o::l',A,h=>by
  have:=sd.all (l++[o]) l' (pD A o) (h.step o)
  simpa using this
theorem V0(ops:Array Oper):Region.before ops=ops.toList.foldl pD #[]:=by
 unfold Region.before
 rw[←wcA]
 rfl
theorem dG.inv{ops:Array Oper}{i j:Nat}(h:dG ops i j):∃ o,ops[i]? =some o∧∃ e∈o.after.toList,Region.binds .any e=true∧(e.on=j∨dG ops e.on j):=by
 have hd:∀ k,(Region.before ops).toList.getD k 0=(Region.before ops).getD k 0:=fun k=>by
  rw[wav,wax,wao]
 have hI:sd ops.toList (Region.before ops):=by
  rw[V0]
  have:=sd.all [] ops.toList #[] ⟨rfl,fun i j h=>by simp at h⟩
  simpa using this
 unfold dG at h
 rw[hd]at h
 obtain⟨o,h1,e,h2,h3,h4⟩:=hI.2 i j h
 refine⟨o,by simpa using h1,e,h2,h3,h4.imp id fun h=>?_⟩
 unfold dG
 rw[hd];exact h
end
section
variable[Maps]{E:Env}
end
section
variable{B lo0:Nat}{m:Match}{w:World}{P:Program}
theorem G3(m k:Nat):tJ m k=m.testBit k:=by
 unfold tJ Nat.testBit
 have h1:Nat.land 1 (Nat.shiftRight m k)=1&&&(m>>>k):=rfl
 rw[h1,Nat.one_and_eq_mod_two]
 rcases Nat.mod_two_eq_zero_or_one (m>>>k)with h|h<;>rw[h]<;>rfl
theorem NT{t:Tmp}:∀ {l:List Tmp},tJ (maskT l) t=true↔t∈l
 |[]=>by simp[maskT,G3]
 |x::l=>by
  have ih:=NT (t:=t) (l:=l)
  rw[G3]at ih⊢
  have h1:maskT (x::l)=(1<<<x)|||maskT l:=rfl
  rw[h1,Nat.testBit_or,wbR,ih,Nat.one_shiftLeft,wcR,wad]
  simp[eq_comm]
theorem NU{ns:Nat}{b:List Nat}{i:Nat}:∀ {l:List Oper} {n:Nat},tmpsOk ns b i l n=true→∀ k p t,l[k]? =some p→p.dst=some t→tJ ns t=true→n+k=i∨ordered b i (n+k)=true
 |[],n,h,k,q,t,hq,hd,ht=>by simp at hq
 |p::l,n,h,0,q,t,hq,hd,ht=>by
  simp only[wQ,wi]at hq
  subst hq
  simp only[tmpsOk,hd,wA,wbR,wbt,wbp]at h
  rcases h.1 with(h1|h1)|h1
  ·rw[ht]at h1;cases h1
  ·exact .inl (by simpa using h1)
  ·exact .inr (by simpa using h1)
 |p::l,n,h,k+1,q,t,hq,hd,ht=>by
  simp only[tmpsOk,wA]at h
  have:=NU h.2 k q t (by simpa using hq) hd ht
  rwa [show n+1+k=n+(k+1) by omega]at this
theorem DF{st:Bool}{b:List Nat}{i:Nat}:∀ {l:List Oper} {n:Nat},effOk st b i l n=true→∀ k p,l[k]? =some p→n+k≠i→ordered b i (n+k)=false→
  kindOf p.op≠ .store∧kindOf p.op≠ .call∧(kindOf p.op= .alloc→i<n+k)∧(kindOf p.op= .load→st=true→n+k<i∧∃ t,((∃ty,p.op= .load ty (.tmp t))∨∃ ty lo hi mx,p.op= .slice ty (.tmp t) lo hi mx)∧∀ k' q,k≤k'→l[k']? =some q→q.dst≠some t)
 |[],n,h,k,q,hq,a9,hf=>by simp at hq
 |p::l,n,h,0,q,hq,a9,hf=>by
  simp only[wQ,wi]at hq
  subst hq
  simp only[waX]at a9 hf⊢
  simp only[effOk,hf,wA,wbR,wbp,wG,wck]at h
  have h1:=h.1.resolve_left a9
  cases hk:kindOf p.op<;>rw[hk]at h1<;>simp only[wG]at h1
  ·simp
  ·refine⟨by simp,by simp,fun _=>?_,by simp⟩
   exact wan h1
  ·refine⟨by simp,by simp,by simp,fun _ cK=>?_⟩
   simp only[cK,wa7,wct,wA]at h1
   refine⟨wan h1.1,?_⟩
   have h2:=h1.2
   have key:∀ t,(!mM p t&&l.all fun q=> !mM q t)=true→∀ k' r,0≤k'→(p::l)[k']? =some r→r.dst≠some t:=fun t h2 k' r _ hr hd=>by
    simp only[wA,waC,wbt]at h2
    cases k' with
    |zero=>
     simp only[wQ,wi]at hr
     subst hr
     have:=h2.1
     simp[mM,hd]at this
    |succ k'=>
     have:=h2.2 r (wag (by simpa using hr))
     simp[mM,hd]at this
   split at h2
   ·rename_i ty t bW
    exact⟨t,.inl ⟨ty,bW⟩,key t h2⟩
   ·rename_i ty t lo hi mx bW
    exact⟨t,.inr ⟨ty,lo,hi,mx,bW⟩,key t h2⟩
   ·simp at h2
 |p::l,n,h,k+1,q,hq,a9,hf=>by
  simp only[effOk,wA]at h
  have:=DF h.2 k q (by simpa using hq) (by omega) (by rwa [show n+1+k=n+(k+1) by omega])
  rw[show n+1+k=n+(k+1) by omega]at this
  refine⟨this.1,this.2.1,this.2.2.1,fun h1 h2=>?_⟩
  obtain⟨h3,t,h4,h5⟩:=this.2.2.2 h1 h2
  refine⟨h3,t,h4,fun k' r gZ hr=>?_⟩
  cases k' with
  |zero=>omega
  |succ k'=>exact h5 k' r (by omega) (by simpa using hr)
theorem DG{b:List Nat}{i:Nat}:∀ {l:List Oper} {n k:Nat} {p:Oper},l[k]? =some p→n+k≠i→ordered b i (n+k)=false→kindOf p.op= .load→p.op∈nO b i l n
 |[],n,k,q,hq,a9,hf,hk=>by simp at hq
 |p::l,n,0,q,hq,a9,hf,hk=>by
  simp only[wQ,wi]at hq
  subst hq
  simp only[waX]at a9 hf
  have:Nat.beq n i=false:=by cases h:Nat.beq n i;rfl;simp at h;exact absurd h a9
  simp[nO,this,hf,hk,isLoad]
 |p::l,n,k+1,q,hq,a9,hf,hk=>by
  have:=DG (b:=b) (i:=i) (l:=l) (n:=n+1) (k:=k) (by simpa using hq) (by omega) (by rwa [show n+1+k=n+(k+1) by omega]) hk
  simp only[nO]
  cases Nat.beq n i||ordered b i n|| !isLoad (kindOf p.op)
  ·exact wM _ this
  ·exact this
theorem NV{b:List Nat}{i:Nat}:∀ {l:List Oper} {n:Nat} {ks:List (TypeId×Tmp×Tmp)},keepsOf b i l n=some ks→∀ k p,l[k]? =some p→n+k≠i→ordered b i (n+k)=false→kindOf p.op= .load→
  n+k<i∧∃ ty t d,p.op= .load ty (.tmp t)∧p.dst=some d∧(ty,t,d)∈ks∧(∀k' q,k≤k'→l[k']? =some q→q.dst≠some t)∧(∀k' q,k<k'→l[k']? =some q→q.dst≠some d)
 |[],n,ks,h,k,q,hq,a9,hf,hk=>by simp at hq
 |p::l,n,ks,h,0,q,hq,a9,hf,hk=>by
  simp only[wQ,wi]at hq
  subst hq
  simp only[waX]at a9 hf⊢
  have hb:Nat.beq n i=false:=by cases h:Nat.beq n i;rfl;simp at h;exact absurd h a9
  simp only[keepsOf,hb,hf,hk,isLoad,wa7,Bool.or_self,wS]at h
  split at h
  ·rename_i ty t d bW hd
   obtain⟨h1,h2⟩:=cr h
   simp only[we,wi]at h2
   obtain⟨r,h3,rfl⟩:=h2
   simp only[wA,wbt,waC]at h1
   obtain⟨⟨h4,h5⟩,h6⟩:=h1
   refine⟨wan h4,ty,t,d,bW,hd,wW ..,fun k' q _ hq DH=>?_,fun k' q gZ hq DH=>?_⟩
   ·cases k' with
    |zero=>
     simp only[wQ,wi]at hq
     subst hq
     simp[mM,DH]at h5
    |succ k'=>
     have:=(h6 q (wag (by simpa using hq))).1
     simp[mM,DH]at this
   ·cases k' with
    |zero=>omega
    |succ k'=>
     have:=(h6 q (wag (by simpa using hq))).2
     simp[mM,DH]at this
  ·simp at h
 |p::l,n,ks,h,k+1,q,hq,a9,hf,hk=>by
  have AA:l[k]? =some q:=by simpa using hq
  have key:∀ {uU},keepsOf b i l (n+1)=some uU→(∀x∈uU,x∈ks)→n+(k+1)<i∧∃ ty t d,q.op= .load ty (.tmp t)∧q.dst=some d∧(ty,t,d)∈ks∧(∀k' q,k+1≤k'→(p::l)[k']? =some q→q.dst≠some t)∧(∀k' q,k+1<k'→(p::l)[k']? =some q→q.dst≠some d):=fun h' hm=>by
   obtain⟨h1,ty,t,d,h2,h3,h4,h5,h6⟩:=NV h' k q AA (by omega) (by rwa [show n+1+k=n+(k+1) by omega]) hk
   refine⟨by omega,ty,t,d,h2,h3,hm _ h4,fun k' q' gZ AA=>?_,fun k' q' gZ AA=>?_⟩
   ·cases k' with
    |zero=>omega
    |succ k'=>exact h5 k' q' (by omega) (by simpa using AA)
   ·cases k' with
    |zero=>omega
    |succ k'=>exact h6 k' q' (by omega) (by simpa using AA)
  simp only[keepsOf]at h
  cases hc:(Nat.beq n i||ordered b i n|| !isLoad (kindOf p.op))with
  |true=>rw[hc]at h;exact key h fun _ h=>h
  |false=>
   rw[hc]at h
   simp only[wS]at h
   split at h
   ·obtain⟨_,h2⟩:=cr h
    simp only[we,wi]at h2
    obtain⟨r,h3,rfl⟩:=h2
    exact key h3 fun _ h=>wM _ h
   ·simp at h
theorem NW{n i:Nat}:∀ {l:List Edge},edgesOk n i l=true→∀ e∈l,e.on<i∨((∃r,e.ground= .gcOnly r)∧e.on<n)
 |[],h,e,he=>by simp at he
 |x::l,h,e,he=>by
  simp only[edgesOk,wA]at h
  rcases wad.1 he with rfl|he
  ·have h1:=h.1
   split at h1
   ·rename_i r hg;exact .inr ⟨⟨r,hg⟩,wan h1⟩
   ·exact .inl (wan h1)
  ·exact NW h.2 e he
theorem NX{ops:List Oper}{b:List Nat}{n:Nat}:∀ {l:List Oper} {i:Nat} {r:List Info},uY ops b n l i=some r→∀ k o,l[k]? =some o→∃ br,r[k]? =some br∧infoAt ops b n (i+k) o=some br
 |[],i,r,h,k,o',ho=>by simp at ho
 |o::l,i,r,h,0,o',ho=>by
  simp only[uY,we,wi]at h
  obtain⟨x,h1,r',h2,rfl⟩:=h
  simp only[wQ,wi]at ho
  subst ho
  exact⟨x,rfl,h1⟩
 |o::l,i,r,h,k+1,o',ho=>by
  simp only[uY,we,wi]at h
  obtain⟨x,h1,r',h2,rfl⟩:=h
  obtain⟨br,h3,h4⟩:=NX h2 k o' (by simpa using ho)
  exact⟨br,by simpa using h3,by rwa [show i+1+k=i+(k+1) by omega]at h4⟩
end
theorem NY{b:List Nat}{i:Nat}:∀ {l:List Oper} {n:Nat},lateOk b i l n=true→∀ (k:Nat) (p:Oper),l[k]? =some p→n+k≠i→ordered b i (n+k)=false→kindOf p.op= .load→i<n+k∧∃ ty x,p.op= .load ty x
 |[],n,_,k,p,hp,_,_,_=>by simp at hp
 |q::l,n,h,k,p,hp,h1,h2,h3=>by
  simp only[lateOk,wA]at h
  cases k with
  |zero=>
   simp only[wQ,wi]at hp
   subst hp
   rw[waX]at h1 h2⊢
   have e1:Nat.beq n i=false:=waK.2 fun e=>h1 (wbw e)
   have e3:isLoad (kindOf q.op)=true:=by rw[h3];rfl
   rw[e1,h2,e3]at h
   simp only[wa7,Bool.or_self,wct,wA]at h
   refine⟨wan h.1.1,?_⟩
   have h4:=h.1.2
   split at h4
   ·rename_i ty x hq;exact⟨ty,x,hq⟩
   ·cases h4
  |succ k=>
   have:=NY h.2 k p (by simpa using hp) (by omega) (by rw[show n+1+k=n+(k+1) by omega];exact h2) h3
   rw[show n+1+k=n+(k+1) by omega]at this
   exact this
theorem NZ{ops:List Oper}{b:List Nat}{n i:Nat}:∀ {l:List Oper} {m k:Nat} {o:Oper},l[k]? =some o→m+k<i+1→m+k<i→uX n (m+k)=true→oD ops b n (m+k) o=true→ordered b (m+k) i=false→rI ops b n i l m≠[]
 |[],m,k,o,h,_,_,_,_,_=>by simp at h
 |q::l,m,k,o,h,h0,h1,h2,h3,h4=>by
  cases k with
  |zero=>
   simp only[wQ,wi]at h
   subst h
   rw[waX]at h1 h2 h3 h4
   have e1:Nat.blt m i=true:=wP h1
   simp[rI,e1,h2,h3,h4]
  |succ k=>
   have:=NZ (ops:=ops) (b:=b) (n:=n) (i:=i) (l:=l) (m:=m+1) (k:=k) (o:=o) (by simpa using h) (by omega) (by omega) (by rw[show m+1+k=m+(k+1) by omega];exact h2) (by rw[show m+1+k=m+(k+1) by omega];exact h3) (by rw[show m+1+k=m+(k+1) by omega];exact h4)
   unfold rI
   cases(Nat.blt m i&&uX n m&&oD ops b n m q&& !ordered b m i)with
   |true=>simp
   |false=>simpa using this
section
variable[Maps]{E:Env}
def dY(o:Oper):Prop:=kindOf o.op= .store∨kindOf o.op= .call
structure Stat(ops:Array Oper)(bf:List Info):Prop where
 info:∀ (i:Nat) (o:Oper),ops[i]? =some o→∃ br,bf[i]? =some br
 rO:∀ (i:Nat) (o:Oper) (e:Edge),ops[i]? =some o→e∈o.after→e.on<i∨((∃r,e.ground= .gcOnly r)∧e.on<ops.size)
 tmps:∀ (i:Nat) (o:Oper) (n:Nat) (p:Oper) (t:Tmp),ops[i]? =some o→ops[n]? =some p→p.dst=some t→(o.dst=some t∨t∈looksOf ops.toList o)→n=i∨dG ops i n∨dG ops n i
 cU:∀ (i:Nat) (o:Oper) (n:Nat) (p:Oper),ops[i]? =some o→ops[n]? =some p→dY o→dY p→n=i∨dG ops i n∨dG ops n i
 CF:∀ (i:Nat) (o:Oper) (n:Nat) (p:Oper),ops[i]? =some o→ops[n]? =some p→dY o→kindOf p.op= .alloc→n<i→dG ops i n
 grow:∀ (i:Nat) (o:Oper) (n:Nat) (p:Oper) (br:Info),ops[i]? =some o→ops[n]? =some p→kindOf o.op= .call→kindOf p.op= .load→bf[i]? =some br→¬ dG ops i n→¬ dG ops n i→br.grow=true∨
  (n<i∧∃ ty t d,p.op= .load ty (.tmp t)∧p.dst=some d∧(ty,t,d)∈br.cz∧(∀(k:Nat) (q:Oper),n≤k→ops[k]? =some q→q.dst≠some t)∧(∀(k:Nat) (q:Oper),n<k→ops[k]? =some q→q.dst≠some d))∨
  (i<n∧(appOf o.op).isSome=true∧br.apart≠[]∧(∃ty x,p.op= .load ty x)∧∀ gH,bf[n]? =some gH→gH.apart≠[])
 LU:∀ (i:Nat) (o:Oper) (n:Nat) (p:Oper) (br:Info),ops[i]? =some o→ops[n]? =some p→kindOf o.op= .store→kindOf p.op= .load→bf[i]? =some br→¬ dG ops i n→¬ dG ops n i→
  n<i∧p.op∈br.apart∧∃ t,((∃ty,p.op= .load ty (.tmp t))∨∃ ty lo hi mx,p.op= .slice ty (.tmp t) lo hi mx)∧∀ (k:Nat) (q:Oper),n≤k→ops[k]? =some q→q.dst≠some t
 store:∀ (i:Nat) (o:Oper) (br:Info),ops[i]? =some o→kindOf o.op= .store→bf[i]? =some br→br.grow=false
end
section
variable{B lo0:Nat}{m:Match}{w:World}{P:Program}
theorem dG.lt{ops:Array Oper}(he:∀ (i:Nat) (o:Oper) (e:Edge),ops[i]? =some o→e∈o.after→e.on<i∨((∃r,e.ground= .gcOnly r)∧e.on<ops.size)):∀ {i j:Nat},dG ops i j→j<i:=by
 intro i
 induction i using Nat.strongRecOn with
 |_ i ih=>
  intro j h
  obtain⟨o,h1,e,h2,h3,h4⟩:=h.inv
  have h5:e.on<i:=by
   rcases he i o e h1 (by simpa using h2)with h5|⟨⟨r,h5⟩,_⟩
   ·exact h5
   ·simp[Region.binds,h5]at h3
  rcases h4 with h4|h4
  ·omega
  ·have:=ih e.on h5 h4;omega
theorem N0{ops:Array Oper}{i n:Nat}:ordered (Region.before ops).toList i n=true↔dG ops i n∨dG ops n i:=by
 simp[ordered,dG,wbR]
theorem Uc{ops:Array Oper}{bf:List Info}(h:xQ ops=some bf):Stat ops bf∧gcOk ops.toList ops.size 20 0=true:=by
 unfold xQ at h
 obtain⟨h0,h⟩:=cr h
 have tU:∀ (i:Nat) (o:Oper),ops[i]? =some o→∃ br,bf[i]? =some br∧infoAt ops.toList (Region.before ops).toList ops.size i o=some br:=fun i o ho=>by
  have:=NX h i o (by simpa using ho)
  simpa using this
 have vR:∀ (i:Nat) (o:Oper),ops[i]? =some o→∃ br,bf[i]? =some br∧edgesOk ops.size i o.after.toList=true∧tmpsOk (maskT ((match o.dst with|some d=>[d]|none=>[])++looksOf ops.toList o)) (Region.before ops).toList i ops.toList 0=true∧
   (match kindOf o.op with
   | .store=>effOk true (Region.before ops).toList i ops.toList 0=true∧br={grow:=false,apart:=nO (Region.before ops).toList i ops.toList 0,cz:=[]}
   | .call=>effOk false (Region.before ops).toList i ops.toList 0=true∧((∃ks,keepsOf (Region.before ops).toList i ops.toList 0=some ks∧br={grow:=false,apart:=[],cz:=ks})∨
     (oD ops.toList (Region.before ops).toList ops.size i o=true∧uX ops.size i=true∧br={grow:=false,apart:=nO (Region.before ops).toList i ops.toList 0,cz:=[]})∨
     br={grow:= !(nO (Region.before ops).toList i ops.toList 0).isEmpty,apart:=[],cz:=[]})
   | .load=>br={grow:=false,apart:=rI ops.toList (Region.before ops).toList ops.size i ops.toList 0,cz:=[]}
   |_=>True):=fun i o ho=>by
  obtain⟨br,h1,h2⟩:=tU i o ho
  unfold infoAt at h2
  obtain⟨h3,h4⟩:=cr h2
  rw[wA]at h3
  refine⟨br,h1,h3.1,h3.2,?_⟩
  cases hk:kindOf o.op<;>rw[hk]at h4<;>simp only at h4⊢
  case load=>simp only[wi]at h4;exact h4.symm
  case store=>
   obtain⟨h5,h6⟩:=cr h4
   simp only[wi]at h6
   exact⟨h5,h6.symm⟩
  case call=>
   obtain⟨h5,h6⟩:=cr h4
   refine⟨h5,?_⟩
   split at h6
   ·rename_i ks yp
    simp only[wi]at h6
    exact .inl ⟨ks,(cr yp).2,h6.symm⟩
   ·cases hl:oD ops.toList (Region.before ops).toList ops.size i o with
    |true=>
     rw[hl]at h6
     simp only[wai,wi]at h6
     have mJ:=hl
     unfold oD at mJ
     rw[wA,wA]at mJ
     exact .inr (.inl ⟨rfl,mJ.1.1,h6.symm⟩)
    |false=>
     rw[hl]at h6
     simp only[wS,wi]at h6
     exact .inr (.inr h6.symm)
 have bW:∀ {n:Nat} {p:Oper},ops[n]? =some p→ops.toList[n]? =some p:=fun h=>by rw[wao];exact h
 have N2:∀ (i:Nat) (o:Oper),ops[i]? =some o→dY o→∃ st,effOk st (Region.before ops).toList i ops.toList 0=true∧(kindOf o.op= .store→st=true):=fun i o ho he=>by
  obtain⟨br,h1,_,_,h4⟩:=vR i o ho
  rcases he with he|he<;>rw[he]at h4
  ·exact⟨true,h4.1,fun _=>rfl⟩
  ·exact⟨false,h4.1,fun h=>by rw[he]at h;cases h⟩
 have tV:∀ {i n:Nat},¬dG ops i n→¬ dG ops n i→ordered (Region.before ops).toList i n=false:=fun h1 h2=>by
  rw[←Bool.not_eq_true,N0];exact fun h=>h.elim h1 h2
 have N3:∀ (i:Nat) (o:Oper) (e:Edge),ops[i]? =some o→e∈o.after→e.on<i∨((∃r,e.ground= .gcOnly r)∧e.on<ops.size):=fun i o e ho he=>by
  obtain⟨br,_,h2,_⟩:=vR i o ho
  exact NW h2 e (by simpa using he)
 have a9:∀ (i:Nat) (o:Oper) (n:Nat) (p:Oper),ops[i]? =some o→ops[n]? =some p→kindOf o.op≠kindOf p.op→n≠i:=fun i o n p ho hp hk h=>by
  subst h;rw[ho]at hp;cases hp;exact hk rfl
 refine⟨⟨fun i o ho=>?_,N3,?_,?_,?_,?_,?_,?_⟩,h0⟩
 ·obtain⟨br,h1,_⟩:=tU i o ho;exact⟨br,h1⟩
 ·intro i o n p t ho hp hd ht
  obtain⟨br,_,_,h3,_⟩:=vR i o ho
  have:=NU h3 n p t (bW hp) hd (NT.2<|by
   rcases ht with ht|ht
   ·rw[ht];simp
   ·exact waI.2 (.inr ht))
  simp only[wau]at this
  rw[N0]at this
  exact this
 ·intro i o n p ho hp he mH
  by_cases oH:n=i
  ·exact .inl oH
  ·obtain⟨st,h1,_⟩:=N2 i o ho he
   by_cases hd:dG ops i n∨dG ops n i
   ·exact .inr hd
   ·have:=DF h1 n p (bW hp) (by simpa using oH) (by simpa using tV (fun h=>hd (.inl h)) (fun h=>hd (.inr h)))
    rcases mH with mH|mH
    ·exact absurd mH this.1
    ·exact absurd mH this.2.1
 ·intro i o n p ho hp he hk hlt
  obtain⟨st,h1,_⟩:=N2 i o ho he
  by_cases hd:dG ops i n
  ·exact hd
  ·exfalso
   have jk:¬ dG ops n i:=fun h=>by have:=h.lt N3;omega
   have:=DF h1 n p (bW hp) (by simp;omega) (by simpa using tV hd jk)
   have:=this.2.2.1 hk
   omega
 ·intro i o n p br ho hp hk gZ AB h1 h2
  obtain⟨gH,h3,_,_,h4⟩:=vR i o ho
  rw[AB]at h3
  cases h3
  rw[hk]at h4
  have oH:(0:Nat)+n≠i:=by simpa using a9 i o n p ho hp (by rw[hk,gZ];simp)
  have hf:ordered (Region.before ops).toList i (0+n)=false:=by simpa using tV h1 h2
  obtain⟨_,⟨ks,yp,rfl⟩|⟨hl,bJ,rfl⟩|rfl⟩:=h4
  ·obtain⟨a1,ty,t,d,a2,a3,a4,a5,a6⟩:=NV yp n p (bW hp) oH hf gZ
   exact .inr (.inl ⟨by omega,ty,t,d,a2,a3,a4,fun k q G4 hq=>a5 k q G4 (bW hq),fun k q G4 hq=>a6 k q G4 (bW hq)⟩)
  ·have mJ:=hl
   unfold oD at mJ
   rw[wA,wA]at mJ
   have h5:=NY mJ.2 n p (bW hp) oH hf gZ
   rw[wau]at h5
   refine .inr (.inr ⟨h5.1,mJ.1.2,fun vS=>?_,h5.2,fun gH Wa=>?_⟩)
   ·have:=DG (b:=(Region.before ops).toList) (i:=i) (l:=ops.toList) (n:=0) (k:=n) (bW hp) oH hf gZ
    dsimp only at vS
    rw[vS]at this
    cases this
   ·obtain⟨zh8,g1,_,_,g4⟩:=vR n p hp
    rw[Wa]at g1
    cases g1
    rw[gZ]at g4
    simp only at g4
    rw[g4]
    exact NZ (k:=i) (o:=o) (bW ho) (by omega) (by rw[wau];exact h5.1) (by rw[wau];exact bJ) (by rw[wau];exact hl) (by rw[wau];rw[wau]at hf;exact hf)
  left
  have:=DG (b:=(Region.before ops).toList) (i:=i) (l:=ops.toList) (n:=0) (k:=n) (bW hp) oH hf gZ
  simp only[wbt,List.isEmpty_eq_false_iff]
  intro vS
  rw[vS]at this
  cases this
 ·intro i o n p br ho hp hk gZ AB h1 h2
  obtain⟨gH,h3,_,_,h4⟩:=vR i o ho
  rw[AB]at h3
  cases h3
  rw[hk]at h4
  obtain⟨h5,rfl⟩:=h4
  have oH:(0:Nat)+n≠i:=by simpa using a9 i o n p ho hp (by rw[hk,gZ];simp)
  have hf:ordered (Region.before ops).toList i (0+n)=false:=by simpa using tV h1 h2
  obtain⟨h6,t,h7,h8⟩:=(DF h5 n p (bW hp) oH hf).2.2.2 gZ rfl
  exact⟨by omega,DG (bW hp) oH hf gZ,t,h7,fun k q hk hq=>h8 k q hk (bW hq)⟩
 ·intro i o br ho hk AB
  obtain⟨gH,h3,_,_,h4⟩:=vR i o ho
  rw[AB]at h3
  cases h3
  rw[hk]at h4
  rw[h4.2]
end
section
variable[Maps]{E:Env}
end
section
variable{B lo0:Nat}{m:Match}{w:World}{P:Program}
theorem Ma{md:Region.Mode}{ops:Array Oper}{ck:Array Bool}(DI:Nat→Nat)(Wb:∀ (i:Nat) (o:Oper) (e:Edge),ops[i]? =some o→e∈o.after→Region.binds md e=true→e.on<ops.size∧DI e.on<DI i)
  (hr:Region.ready md ops ck=[]) (hs:ck.size=ops.size):∀ i,i<ops.size→ck.getD i true=true:=by
 have key:∀ n i,DI i=n→i<ops.size→ck.getD i true=true:=by
  intro n
  induction n using Nat.strongRecOn with
  |_ n ih=>
   intro i hi hlt
   by_cases hl:ck.getD i true=true
   ·exact hl
   ·exfalso
    have tF:i∈Region.ready md ops ck:=mem_ready.2 ⟨by simpa using hl,ops[i],wa0 hlt,fun e he hb=>by
     obtain⟨h1,h2⟩:=Wb i ops[i] e (wa0 hlt) he hb
     have h3:=ih (DI e.on) (by omega) e.on rfl h1
     have lU:e.on<ck.size:=by rw[hs];exact h1
     rw[wax,wa0 lU]at h3⊢
     simpa using h3⟩
    rw[hr]at tF
    cases tF
 exact fun i hi=>key _ i rfl hi
theorem N4{m:Nat}:∀ {l:List Edge},zI m l=true→∀ e∈l,Region.binds .gc e=true→m.testBit e.on=true
 |[],h,e,he,hb=>by simp at he
 |x::l,h,e,he,hb=>by
  simp only[zI,wA,wbR,wbt]at h
  rcases wad.1 he with rfl|he
  ·rcases h.1 with h1|h1
   ·exfalso
    unfold bindsGc at h1
    split at h1
    ·rename_i hg;simp[Region.binds,hg]at hb
    ·cases h1
   ·rw[←G3];exact h1
  ·exact N4 h.2 e he hb
theorem DJ{ops:Array Oper}{ck:Array Bool}(hr:Region.ready .gc ops ck=[])(hs:ck.size=ops.size):∀ (l:List Oper) (i m:Nat),(∀k o,l[k]? =some o→ops[i+k]? =some o)→(∀j,m.testBit j=true→j<ops.size∧ck.getD j true=true)→
  ∀j,(gcPass l i m).testBit j=true→j<ops.size∧ck.getD j true=true
 |[],i,m,_,hm,j,hj=>hm j hj
 |o::l,i,m,hl,hm,j,hj=>by
  have ia:∀ k o,l[k]? =some o→ops[i+1+k]? =some o:=fun k o h=>by
   have:=hl (k+1) o (by simpa using h)
   rwa [show i+(k+1)=i+1+k by omega]at this
  have ho:ops[i]? =some o:=hl 0 o rfl
  simp only[gcPass]at hj
  cases hb:tJ m i with
  |true=>rw[hb]at hj;exact DJ hr hs l (i+1) m ia hm j hj
  |false=>
   rw[hb]at hj
   simp only[wS,fb]at hj
   cases he:zI m o.after.toList with
   |false=>rw[he]at hj;exact DJ hr hs l (i+1) m ia hm j hj
   |true=>
    rw[he]at hj
    simp only[wai]at hj
    refine DJ hr hs l (i+1) _ ia (fun q hq=>?_) j hj
    have h1:Nat.lor m (Nat.shiftLeft 1 i)=m|||(1<<<i):=rfl
    rw[h1,Nat.testBit_or,wbR,Nat.one_shiftLeft,wcR]at hq
    rcases hq with hq|hq
    ·exact hm q hq
    ·have Wc:i=q:=by simpa using hq
     subst Wc
     have hlt:i<ops.size:=(w0.1 ho).1
     refine⟨hlt,?_⟩
     by_cases hd:ck.getD i true=true
     ·exact hd
     ·exfalso
      have:i∈Region.ready .gc ops ck:=mem_ready.2 ⟨by simpa using hd,o,ho,fun e Wd hU=>by
       obtain⟨h2,h3⟩:=hm e.on (N4 he e (by simpa using Wd) hU)
       have lU:e.on<ck.size:=by rw[hs];exact h2
       rw[wax,wa0 lU]at h3⊢
       simpa using h3⟩
      rw[hr]at this
      cases this
theorem Mb{ops:Array Oper}{ck:Array Bool}(hr:Region.ready .gc ops ck=[])(hs:ck.size=ops.size):∀ (k m:Nat),gcOk ops.toList ops.size k m=true→(∀j,m.testBit j=true→j<ops.size∧ck.getD j true=true)→∀ i,i<ops.size→ck.getD i true=true
 |0,m,h,_,i,_=>by simp[gcOk]at h
 |k+1,m,h,hm,i,hi=>by
  simp only[gcOk,fb]at h
  have hp:=DJ hr hs ops.toList 0 m (fun k o h=>by rw[wau,←wao];exact h) hm
  cases hb:Nat.beq (gcPass ops.toList 0 m) (Nat.sub (Nat.shiftLeft 1 ops.size) 1)with
  |true=>
   have h1:gcPass ops.toList 0 m=2^ops.size-1:=by
    have h2:gcPass ops.toList 0 m=Nat.sub (Nat.shiftLeft 1 ops.size) 1:=by simpa using hb
    have h3:Nat.sub (Nat.shiftLeft 1 ops.size) 1=(1<<<ops.size)-1:=rfl
    rw[h2,h3,Nat.one_shiftLeft]
   exact(hp i (by rw[h1,Nat.testBit_two_pow_sub_one];simpa using hi)).2
  |false=>
   rw[hb]at h
   exact Mb hr hs k _ h hp i hi
end
section
variable[Maps]{E:Env}
theorem N5{T:Tr Value}{H H':Heap}(h:H.objs=H'.objs):∀ (ks:List (TypeId×Tmp×Tmp)),keepOk E T H ks=keepOk E T H' ks
 |[]=>rfl
 |(ty,t,d)::l=>by
  have:∀ a,loadV E H ty a=loadV E H' ty a:=fun a=>by unfold loadV;rw[h]
  simp only[keepOk,this,N5 h l]
structure Text(E:Env)(call:dc)(all:List Oper)(size:Nat)(ops:List Oper)(bf:List Info)(T:Nat→Tr Value)(H:Nat→Heap)(v:Nat→Value)(wt:Nat→Bool):Prop where
 want:∀ i o,ops[i]? =some o→wantedA (T i) all o=some (wt i)
 put:∀ i o,ops[i]? =some o→gW size (T i) o.dst (v i)=some (T (i+1))
 skip:∀ i o,ops[i]? =some o→wt i=false→v i=undef∧H (i+1)=H i
 done:∀ i o br,ops[i]? =some o→bf[i]? =some br→wt i=true→storeApart E (T i) (H i) o.op br.apart=true∧
  ∃H',exOp E call (T i) o {objs:=(H i).objs,grps:=(H i).grps,next:=(H i).next,lo:=bif br.grow then(H i).next else(H i).lo}=some (v i,H')∧H (i+1)={objs:=H'.objs,grps:=H'.grps,next:=H'.next,lo:=(H i).lo}
 kept:∀ i o br,ops[i]? =some o→bf[i]? =some br→wt i=true→keepOk E (T i) (H (i+1)) br.cz=true
def consF{α:Type}(x:α)(f:Nat→α):Nat→α
 |0=>x
 |n+1=>f n
theorem FY{call:dc}{all:List Oper}{size:Nat}:∀ {ops:List Oper} {bf:List Info} {T T':Tr Value} {H H':Heap},exDraw E call all size ops bf T H=some (T',H')→
  ∃Tf Hf vf wf,Tf 0=T∧Hf 0=H∧Tf ops.length=T'∧Hf ops.length=H'∧Text E call all size ops bf Tf Hf vf wf
 |[],bf,T,T',H,H',h=>by
  simp only[exDraw,wi,wk]at h
  exact⟨fun _=>T,fun _=>H,fun _=>undef,fun _=>false,rfl,rfl,h.1,h.2,⟨fun i o h=>by simp at h,fun i o h=>by simp at h,fun i o h=>by simp at h,fun i o br h=>by simp at h,fun i o br h=>by simp at h⟩⟩
 |o::ops,[],T,T',H,H',h=>by simp[exDraw]at h
 |o::ops,br::bf,T,T',H,H',h=>by
  simp only[exDraw,ub]at h
  split at h
  ·simp at h
  ·rename_i hw
   obtain⟨ha,h⟩:=cr h
   simp only[we]at h
   obtain⟨r,h1,h⟩:=h
   obtain⟨G5,h⟩:=cr h
   simp only[we]at h
   obtain⟨T1,h2,h3⟩:=h
   obtain⟨Tf,Hf,vf,wf,e1,e2,e3,e4,e5⟩:=FY h3
   refine⟨consF T Tf,consF H Hf,consF r.1 vf,consF true wf,rfl,rfl,e3,e4,⟨?_,?_,?_,?_,?_⟩⟩
   ·intro i o' bG
    cases i with
    |zero=>simp only[wQ,wi]at bG;subst bG;exact hw
    |succ i=>exact e5.want i o' (by simpa using bG)
   ·intro i o' bG
    cases i with
    |zero=>simp only[wQ,wi]at bG;subst bG;simp only[consF,e1,h2]
    |succ i=>exact e5.put i o' (by simpa using bG)
   ·intro i o' bG kA
    cases i with
    |zero=>simp[consF]at kA
    |succ i=>exact e5.skip i o' (by simpa using bG) kA
   ·intro i o' gH bG eh kA
    cases i with
    |zero=>
     simp only[wQ,wi]at bG eh;subst bG;subst eh
     exact⟨ha,r.2,h1,by simp only[consF,e2]⟩
    |succ i=>exact e5.done i o' gH (by simpa using bG) (by simpa using eh) kA
   ·intro i o' gH bG eh kA
    cases i with
    |zero=>
     simp only[wQ,wi]at bG eh;subst bG;subst eh
     simp only[consF,e2]
     rw[←G5]
     exact N5 (H:={objs:=r.2.objs,grps:=r.2.grps,next:=r.2.next,lo:=H.lo}) (H':=r.2) rfl _
    |succ i=>exact e5.kept i o' gH (by simpa using bG) (by simpa using eh) kA
  ·rename_i hw
   simp only[we]at h
   obtain⟨T1,h2,h3⟩:=h
   obtain⟨Tf,Hf,vf,wf,e1,e2,e3,e4,e5⟩:=FY h3
   refine⟨consF T Tf,consF H Hf,consF undef vf,consF false wf,rfl,rfl,e3,e4,⟨?_,?_,?_,?_,?_⟩⟩
   ·intro i o' bG
    cases i with
    |zero=>simp only[wQ,wi]at bG;subst bG;exact hw
    |succ i=>exact e5.want i o' (by simpa using bG)
   ·intro i o' bG
    cases i with
    |zero=>simp only[wQ,wi]at bG;subst bG;simp only[consF,e1,h2]
    |succ i=>exact e5.put i o' (by simpa using bG)
   ·intro i o' bG kA
    cases i with
    |zero=>exact⟨rfl,e2⟩
    |succ i=>exact e5.skip i o' (by simpa using bG) kA
   ·intro i o' gH bG eh kA
    cases i with
    |zero=>simp[consF]at kA
    |succ i=>exact e5.done i o' gH (by simpa using bG) (by simpa using eh) kA
   ·intro i o' gH bG eh kA
    cases i with
    |zero=>simp[consF]at kA
    |succ i=>exact e5.kept i o' gH (by simpa using bG) (by simpa using eh) kA
end
section
variable[Maps]{B lo0:Nat}{E:Env}
def below(m:Match)(n:Nat):Match:=fun r=>if r<n then m r else none
end
section
variable{B lo0:Nat}{m:Match}{w:World}{P:Program}
theorem dt{m:Match}{n r:Nat}{p:dV}:below m n r=some p↔r<n∧m r=some p:=by
 unfold below
 split
 ·simp_all
 ·simp only[reduceCtorEq,wa5,not_and]
  omega
theorem TZ(m:Match)(n:Nat):(below m n).le m:=fun _ _ h=>(dt.1 h).2
theorem zS(m:Match){n n':Nat}(h:n≤n'):(below m n).le (below m n'):=fun _ _ hr=>dt.2 ⟨wq (dt.1 hr).1 h,(dt.1 hr).2⟩
theorem rP{m m':Match}(h:m.le m')(n:Nat):(below m n).le (below m' n):=fun _ _ hr=>dt.2 ⟨(dt.1 hr).1,h _ _ (dt.1 hr).2⟩
end
section
variable[Maps]{B lo0:Nat}{E:Env}
structure jI(B lo0:Nat)(m:Match)(K:Nat→Nat→AObj→Prop)(G:Nat→List Nat→Prop)(w:World):Prop where
 base:B≤w.heap.size
 dom:∀ r p,m r=some p→p.ax<w.heap.size∧(lo0≤r→B≤p.ax)∧(r<lo0→p.ax<B)
 obj:∀ u r p o,m r=some p→K u r o→iZ (decide (lo0≤r)) (below m u) p w o
 sep:∀ u u' r r' p p' o o',r≠r'→lo0≤r→m r=some p→m r'=some p'→K u r o→K u' r' o'→p.ax=p'.ax→Mates o o'
 dF:∀ u u' r r' p p' c c' g z z',m r=some p→m r'=some p'→K u r (.row c (some (g,z)) true)→K u' r' (.row c' (some (g,z')) true)→r=r'
 aS:∀ u r p c g z,m r=some p→K u r (.row c (some (g,z)) false)→∀ l,G g l→r∈l
 ends:∀ u u' r r' p p' c c' g z z' t,m r=some p→m r'=some p'→K u r (.row c (some (g,z)) true)→K u' r' (.row c' (some (g,z')) t)→p.ax=p'.ax→p'.base+c'.length≤p.base+c.length
 bH:∀ u r p c g z t,m r=some p→K u r (.row c (some (g,z)) t)→g<u
 fJ:GN≤B∧GL w
theorem jI.rel{m:Match}{K:Nat→Nat→AObj→Prop}{G:Nat→List Nat→Prop}{w:World}(h:jI B lo0 m K G w){H:Heap}{n:Nat}(aj:lo0≤H.lo)(hn:H.lo≤H.next)(hN:n≤H.next)
  (hk:∀ r p o,m r=some p→r<n→H.objs.get r=some o→∃ u,u≤n∧K u r o) (hg:∀ g l,H.grps.get g=some l→G g l):Rel B lo0 (below m n) H w where
 base:=h.base
 fJ:=h.fJ
 lo:=aj
 ag:=hn
 dom r p hr:=by
  obtain⟨h1,h2⟩:=dt.1 hr
  obtain⟨a,b,c⟩:=h.dom r p h2
  exact⟨by omega,a,b,c⟩
 obj r p o hr ho:=by
  obtain⟨h1,h2⟩:=dt.1 hr
  obtain⟨u,h3,h4⟩:=hk r p o h2 h1 ho
  exact(h.obj u r p o h2 h4).mono (zS m h3) rfl
 sep r r' p p' o o' a9 hl hr ct ho bG hb:=by
  obtain⟨h1,h2⟩:=dt.1 hr
  obtain⟨eg,ez⟩:=dt.1 ct
  obtain⟨u,_,h4⟩:=hk r p o h2 h1 ho
  obtain⟨u',_,Ab⟩:=hk r' p' o' ez eg bG
  exact h.sep u u' r r' p p' o o' a9 hl h2 ez h4 Ab hb
 dF r r' p p' c c' g z z' hr ct ho bG:=by
  obtain⟨h1,h2⟩:=dt.1 hr
  obtain⟨eg,ez⟩:=dt.1 ct
  obtain⟨u,_,h4⟩:=hk r p _ h2 h1 ho
  obtain⟨u',_,Ab⟩:=hk r' p' _ ez eg bG
  exact h.dF u u' r r' p p' c c' g z z' h2 ez h4 Ab
 aS r p c g z hr ho l hl:=by
  obtain⟨h1,h2⟩:=dt.1 hr
  obtain⟨u,_,h4⟩:=hk r p _ h2 h1 ho
  exact h.aS u r p c g z h2 h4 l (hg g l hl)
 ends r r' p p' c c' g z z' t hr ct ho bG hb:=by
  obtain⟨h1,h2⟩:=dt.1 hr
  obtain⟨eg,ez⟩:=dt.1 ct
  obtain⟨u,_,h4⟩:=hk r p _ h2 h1 ho
  obtain⟨u',_,Ab⟩:=hk r' p' _ ez eg bG
  exact h.ends u u' r r' p p' c c' g z z' t h2 ez h4 Ab hb
 bH r p c g z t hr ho:=by
  obtain⟨h1,h2⟩:=dt.1 hr
  obtain⟨u,h3,h4⟩:=hk r p _ h2 h1 ho
  have:=h.bH u r p c g z t h2 h4
  omega
theorem jI.LN{m:Match}{H:Heap}{w:World}(h:Rel B lo0 m H w):jI B lo0 m (fun u r o=>u=H.next∧H.objs.get r=some o) (fun g l=>H.grps.get g=some l) w where
 base:=h.base
 fJ:=h.fJ
 dom r p hr:=(h.dom r p hr).2
 obj u r p o hr ho:=by
  obtain⟨rfl,ho⟩:=ho
  exact(h.obj r p o hr ho).mono (fun r p hr=>dt.2 ⟨(h.dom r p hr).1,hr⟩) rfl
 sep u u' r r' p p' o o' a9 hl hr ct ho bG hb:=h.sep r r' p p' o o' a9 hl hr ct ho.2 bG.2 hb
 dF u u' r r' p p' c c' g z z' hr ct ho bG:=h.dF r r' p p' c c' g z z' hr ct ho.2 bG.2
 aS u r p c g z hr ho l hl:=h.aS r p c g z hr ho.2 l hl
 ends u u' r r' p p' c c' g z z' t hr ct ho bG hb:=h.ends r r' p p' c c' g z z' t hr ct ho.2 bG.2 hb
 bH u r p c g z t hr ho:=by
  obtain⟨rfl,ho⟩:=ho
  exact h.bH r p c g z t hr ho
theorem jI.FJ{m:Match}{K K':Nat→Nat→AObj→Prop}{G G':Nat→List Nat→Prop}{w:World}(h:jI B lo0 m K G w)(hk:∀ u r p o,m r=some p→K' u r o→∃ u',u'≤u∧K u' r o)(hg:∀ g l,G' g l→G g l):jI B lo0 m K' G' w where
 base:=h.base
 fJ:=h.fJ
 dom:=h.dom
 obj u r p o hr ho:=by
  obtain⟨u',h1,h2⟩:=hk u r p o hr ho
  exact(h.obj u' r p o hr h2).mono (zS m h1) rfl
 sep u u' r r' p p' o o' a9 hl hr ct ho bG hb:=by
  obtain⟨_,_,h2⟩:=hk u r p o hr ho
  obtain⟨_,_,ez⟩:=hk u' r' p' o' ct bG
  exact h.sep _ _ r r' p p' o o' a9 hl hr ct h2 ez hb
 dF u u' r r' p p' c c' g z z' hr ct ho bG:=by
  obtain⟨_,_,h2⟩:=hk u r p _ hr ho
  obtain⟨_,_,ez⟩:=hk u' r' p' _ ct bG
  exact h.dF _ _ r r' p p' c c' g z z' hr ct h2 ez
 aS u r p c g z hr ho l hl:=by
  obtain⟨_,_,h2⟩:=hk u r p _ hr ho
  exact h.aS _ r p c g z hr h2 l (hg g l hl)
 ends u u' r r' p p' c c' g z z' t hr ct ho bG hb:=by
  obtain⟨_,_,h2⟩:=hk u r p _ hr ho
  obtain⟨_,_,ez⟩:=hk u' r' p' _ ct bG
  exact h.ends _ _ r r' p p' c c' g z z' t hr ct h2 ez hb
 bH u r p c g z t hr ho:=by
  obtain⟨_,h1,h2⟩:=hk u r p _ hr ho
  have:=h.bH _ r p c g z t hr h2
  omega
theorem jI.extend{m m':Match}{K K':Nat→Nat→AObj→Prop}{G:Nat→List Nat→Prop}{w w':World}(h:jI B lo0 m K G w)(cp:m.le m')(bh:w.heap.size≤w'.heap.size)
  (gU:∀ b,b<w.heap.size→w'.heap[b]? =w.heap[b]?) (jG:∀ r p,m' r=some p→m r=none→lo0≤r∧w.heap.size≤p.ax∧p.ax<w'.heap.size) (LI:∀ r r' p p',m' r=some p→m r=none→m' r'=some p'→m r'=none→r=r')
  (hK:∀ u r p o,m' r=some p→K' u r o→(m r=some p∧K u r o)∨(m r=none∧ve o∧iZ (decide (lo0≤r)) (below m' u) p w' o)):jI B lo0 m' K' G w' where
 base:=wK h.base bh
 fJ:=⟨h.fJ.1,Md (fun b hb=>gU b (wq hb (wK h.fJ.1 h.base))) h.fJ.2⟩
 dom r p hr:=by
  cases hm:m r with
  |some q=>
   have:=cp r q hm
   rw[hr]at this;cases this
   obtain⟨a,b,c⟩:=h.dom r p hm
   exact⟨wq a bh,b,c⟩
  |none=>
   obtain⟨a,b,c⟩:=jG r p hr hm
   have:=h.base
   exact⟨c,fun _=>by omega,fun h=>by omega⟩
 obj u r p o hr ho:=by
  rcases hK u r p o hr ho with⟨h1,h2⟩|⟨_,_,h3⟩
  ·exact(h.obj u r p o h1 h2).mono (rP cp u) (gU _ (h.dom r p h1).1)
  ·exact h3
 sep u u' r r' p p' o o' a9 hl hr ct ho bG hb:=by
  rcases hK u r p o hr ho with⟨h1,h2⟩|⟨h1,_,_⟩<;>rcases hK u' r' p' o' ct bG with⟨eg,ez⟩|⟨eg,_,_⟩
  ·exact h.sep u u' r r' p p' o o' a9 hl h1 eg h2 ez hb
  ·have:=(h.dom r p h1).1
   have:=(jG r' p' ct eg).2.1
   omega
  ·have:=(h.dom r' p' eg).1
   have:=(jG r p hr h1).2.1
   omega
  ·exact absurd (LI r r' p p' hr h1 ct eg) a9
 dF u u' r r' p p' c c' g z z' hr ct ho bG:=by
  rcases hK u r p _ hr ho with⟨h1,h2⟩|⟨_,h3,_⟩
  ·rcases hK u' r' p' _ ct bG with⟨eg,ez⟩|⟨_,h3,_⟩
   ·exact h.dF u u' r r' p p' c c' g z z' h1 eg h2 ez
   ·exact absurd rfl (h3 _ _ _)
  ·exact absurd rfl (h3 _ _ _)
 aS u r p c g z hr ho l hl:=by
  rcases hK u r p _ hr ho with⟨h1,h2⟩|⟨_,h3,_⟩
  ·exact h.aS u r p c g z h1 h2 l hl
  ·exact absurd rfl (h3 _ _ _)
 ends u u' r r' p p' c c' g z z' t hr ct ho bG hb:=by
  rcases hK u r p _ hr ho with⟨h1,h2⟩|⟨_,h3,_⟩
  ·rcases hK u' r' p' _ ct bG with⟨eg,ez⟩|⟨_,h3,_⟩
   ·exact h.ends u u' r r' p p' c c' g z z' t h1 eg h2 ez hb
   ·exact absurd rfl (h3 _ _ _)
  ·exact absurd rfl (h3 _ _ _)
 bH u r p c g z t hr ho:=by
  rcases hK u r p _ hr ho with⟨h1,h2⟩|⟨_,h3,_⟩
  ·exact h.bH u r p c g z t h1 h2
  ·exact absurd rfl (h3 _ _ _)
structure vg(m:Match)(H:Heap)(w₀:World)(n:Nat→Nat)(S:Nat→Prop)(M:Match)(w:World):Prop where
 le:m.le M
 dom:∀ r p,M r=some p→(m r=some p∧r<n 0)∨(m r=none∧∃ j,S j∧n j≤r∧r<n (j+1))
 ax:∀ r p,M r=some p→m r=none→w₀.heap.size≤p.ax∨∃ r₀ p₀,m r₀=some p₀∧H.lo≤r₀∧p₀.ax=p.ax
 frame:∀ b,b<w₀.heap.size→(∀r p,m r=some p→H.lo≤r→p.ax≠b)→w.heap[b]? =w₀.heap[b]?
 size:w₀.heap.size≤w.heap.size
 os:w.os=w₀.os∧w.output=w₀.output
def join(M m':Match)(a b:Nat):Match:=fun r=>if a≤r∧r<b then m' r else M r
theorem vg.step{m:Match}{H:Heap}{w₀:World}{n:Nat→Nat}{S:Nat→Prop}{M:Match}{w:World}(hO:vg m H w₀ n S M w){i:Nat}(Mn:∀ r p,m r=some p→r<n i){Hx oE:Heap}{m':Match}{w':World}
  (hg:Good B lo0 (below M (n i)) Hx w m' oE w') (aj:H.lo≤Hx.lo):vg m H w₀ n (fun j=>S j∨j=i) (join M m' (n i) (n (i+1))) w' where
 le r p hr:=by
  have:=Mn r p hr
  unfold join
  rw[wI (by omega)]
  exact hO.le r p hr
 dom r p hr:=by
  unfold join at hr
  split at hr
  ·rename_i cn
   refine .inr ⟨?_,i,.inr rfl,cn⟩
   cases hm:m r with
   |none=>rfl
   |some q=>have:=Mn r q hm;omega
  ·rcases hO.dom r p hr with h|⟨h0,j,h1,h2⟩
   ·exact .inl h
   ·exact .inr ⟨h0,j,.inl h1,h2⟩
 ax r p hr hm:=by
  unfold join at hr
  split at hr
  ·rename_i cn
   have oG:below M (n i) r=none:=by
    unfold below;rw[wI (by omega)]
   rcases hg.ax r p hr oG with h|⟨r₀,p₀,h1,h2,h3⟩
   ·exact .inl (wK hO.size h)
   ·have h1:=(dt.1 h1).2
    cases F5:m r₀ with
    |none=>
     rcases hO.ax r₀ p₀ h1 F5 with h|⟨r₁,p₁,h4,h5,h6⟩
     ·exact .inl (by rw[←h3];exact h)
     ·exact .inr ⟨r₁,p₁,h4,h5,h6.trans h3⟩
    |some q=>
     have:=hO.le r₀ q F5
     rw[h1]at this;cases this
     exact .inr ⟨r₀,p₀,F5,wK aj h2,h3⟩
  ·exact hO.ax r p hr hm
 frame b hb hf:=by
  refine(hg.frame b (wq hb hO.size) fun r p hr hl iy=>?_).trans (hO.frame b hb hf)
  have hr:=(dt.1 hr).2
  cases hm:m r with
  |none=>
   rcases hO.ax r p hr hm with h|⟨r₀,p₀,h1,h2,h3⟩
   ·omega
   ·exact hf r₀ p₀ h1 h2 (h3.trans iy)
  |some q=>
   have:=hO.le r q hm
   rw[hr]at this;cases this
   exact hf r p hm (wK aj hl) iy
 size:=wK hO.size hg.size
 os:=⟨hg.os.1.trans hO.os.1,hg.os.2.trans hO.os.2⟩
theorem vg.skip{m:Match}{H:Heap}{w₀:World}{n:Nat→Nat}{S:Nat→Prop}{M:Match}{w:World}(hO:vg m H w₀ n S M w)(i:Nat):vg m H w₀ n (fun j=>S j∨j=i) M w:=
 ⟨hO.le,fun r p hr=>by
  rcases hO.dom r p hr with h|⟨h0,j,h1,h2⟩
  ·exact .inl h
  ·exact .inr ⟨h0,j,.inl h1,h2⟩,hO.ax,hO.frame,hO.size,hO.os⟩
end
section
variable[Maps]{E:Env}
theorem Mx{H H':Heap}{e:TypeId}{s v:Value}{k:Nat}{new:List Value}(h:appendV E H e s k new=some (v,H'))
  (hb:(∃l c,s= .slice none l c)∨∃ r o l c cells g t,s= .slice (some ⟨r,o,none⟩) l c∧H.objs.get r=some (.row cells (some g) t)) {x:Nat} {cs:List Value} {tp:Bool} (hx:x<H.next) (hr:H'.objs.get x=some (.row cs none tp)):H.objs.get x=some (.row cs none tp):=by
 have UQ:∀ z c,(H.dx z c).objs.get x=some (.row cs none tp)→H.objs.get x=some (.row cs none tp):=fun z c hh=>by
  simp only[Heap.dx,fb,Tr.force_eq]at hh
  rcases Tr.dq hh with⟨h1,_⟩|⟨_,h1⟩
  ·omega
  ·exact h1
 unfold appendV at h
 simp only[we]at h
 obtain⟨i,_,h⟩:=h
 rcases hb with⟨l,c,rfl⟩|⟨r,o,l,c,cells,g,t,rfl,aG⟩
 ·simp only at h
  cases h1:Nat.ble (l+k) c with
  |true=>rw[h1]at h;simp only[wai,wi,wk]at h;rw[←h.2]at hr;exact hr
  |false=>
   rw[h1]at h
   simp only[wS]at h
   cases h2:(!ti i (l+k)|| !Nat.beq l 0)with
   |true=>rw[h2]at h;simp at h
   |false=>
    rw[h2]at h
    simp only[wS,wi,wk]at h
    rw[←h.2]at hr
    exact UQ _ _ hr
 ·simp only[aG]at h
  cases h1:Nat.ble (l+k) c with
  |true=>
   rw[h1]at h
   simp only[wai]at h
   cases h2:Nat.beq k 0 with
   |true=>rw[h2]at h;simp only[wai,wi,wk]at h;rw[←h.2]at hr;exact hr
   |false=>
    rw[h2]at h
    simp only[wS,we,wi,wk]at h
    obtain⟨H1,hw,_,rfl⟩:=h
    unfold Heap.write at hw
    cases h3:(!Nat.ble H.lo r|| !new.all isCell)with
    |true=>rw[h3]at hw;simp at hw
    |false=>
     rw[h3]at hw
     simp only[wS,aG]at hw
     cases t with
     |false=>simp at hw
     |true=>
      simp only at hw
      cases h4:(!Nat.ble (o+l*i.size+new.length) cells.length)with
      |true=>rw[h4]at hw;simp at hw
      |false=>
       rw[h4]at hw
       simp only[wS]at hw
       split at hw
       ·simp only[we,Tr.force_eq,wi]at hw
        obtain⟨t1,h5,rfl⟩:=hw
        rcases Tr.dq hr with⟨_,h6⟩|⟨_,h6⟩
        ·simp at h6
        ·exact(Gd h5 _ _ h6).2
       ·simp at hw
  |false=>
   rw[h1]at h
   simp only[wS]at h
   cases h2:(!ti i (l+k))with
   |true=>rw[h2]at h;simp at h
   |false=>
    rw[h2]at h
    simp only[wS]at h
    cases t with
    |false=>simp at h
    |true=>
     simp only at h
     cases h3:(Nat.beq (o+l*i.size) cells.length&&Nat.ble H.lo r&&Nat.beq g.2 i.size&&new.all isCell)with
     |false=>rw[h3]at h;simp at h
     |true=>
      rw[h3]at h
      simp only[wai,we,wi,wk]at h
      obtain⟨l1,_,H1,hg,_,rfl⟩:=h
      unfold Heap.grow at hg
      split at hg
      ·simp at hg
      ·simp only[fb,Tr.force_eq,wi]at hg
       rw[←hg]at hr
       rcases Tr.dq hr with⟨h6,_⟩|⟨_,h6⟩
       ·omega
       ·rcases Tr.dq h6 with⟨_,h7⟩|⟨_,h7⟩
        ·simp at h7
        ·exact h7
theorem UR{T:Tr Value}{a:Operand}{l:List Operand}{vs:List Value}(h:evs T (a::l)=some vs):∃ v fh,ev T a=some v∧vs=v::fh:=by
 simp only[evs,we,wi]at h
 obtain⟨v,h1,fh,_,h3⟩:=h
 exact⟨v,fh,h1,h3.symm⟩
theorem Tk{call:dc}{T:Tr Value}{o:Oper}{H H':Heap}{v:Value}{args:List Operand}(h:exOp E call T o H=some (v,H'))(ha:appOf o.op=some args)(hb:lateBase T H args=true){x:Nat}{cs:List Value}{tp:Bool}(hx:x<H.next)(hr:H'.objs.get x=some (.row cs none tp)):H.objs.get x=some (.row cs none tp):=by
 unfold appOf at ha
 split at ha
 ·rename_i c bW
  split at ha
  ·rename_i ln
   simp only[wi]at ha
   subst ha
   unfold exOp at h
   rw[bW]at h
   simp only[ln,we]at h
   obtain⟨vs,h1,h2⟩:=h
   unfold lateBase at hb
   split at hb
   ·rename_i a l hl
    rw[hl]at h1
    obtain⟨u,fh,h3,rfl⟩:=UR h1
    have gu:(∃l c,u= .slice none l c)∨∃ r o l c cells g t,u= .slice (some ⟨r,o,none⟩) l c∧H.objs.get r=some (.row cells (some g) t):=by
     rw[h3]at hb
     split at hb
     ·rename_i n c hq;cases hq;exact .inl ⟨n,c,rfl⟩
     ·rename_i r o n c hq
      cases hq
      split at hb
      ·rename_i cells g t hq;exact .inr ⟨r,o,n,c,cells,g,t,rfl,hq⟩
      ·cases hb
     ·cases hb
    generalize c.argTypes.toList=ts at h2
    match ts,fh,h2 with
    |[],_,h2=>simp[builtinV]at h2
    |[_],_,h2=>simp[builtinV]at h2
    |_::_::_,[],h2=>simp[builtinV]at h2
    |t1::t2::_,y::_,h2=>
     simp only[builtinV,we]at h2
     obtain⟨i,_,i',_,h2⟩:=h2
     split at h2
     ·split at h2
      ·simp only[we]at h2
       obtain⟨_,_,_,_,_,_,h2⟩:=h2
       exact Mx (cr h2).2 gu hx hr
      ·simp only[we]at h2
       obtain⟨_,_,_,_,h2⟩:=h2
       exact Mx h2 gu hx hr
      ·simp at h2
     ·simp at h2
   ·cases hb
  ·cases ha
 ·cases ha
end
section
variable[Maps]{B lo0:Nat}{E:Env}
theorem CD{M:Match}{K:Nat→Nat→AObj→Prop}{G:Nat→List Nat→Prop}{w:World}(h:jI B lo0 M K G w){n nx:Nat}(hn:n≤nx)(aj:lo0≤nx):Rel B lo0 (below M n) {objs:=Tr.nil,grps:=Tr.nil,next:=nx,lo:=nx} w:=
 h.rel aj (wy _) hn (fun r p o _ _ ho=>by simp[Tr.get_nil]at ho) (fun g l hl=>by simp[Tr.get_nil]at hl)
theorem tK{α:Type}{r j:Nat}{a x:α}(h:((Tr.nil:Tr α).set r a).get j=some x):j=r∧x=a:=by
 rcases Tr.dq h with h|⟨_,h⟩
 ·exact h
 ·simp[Tr.get_nil]at h
theorem Te{M:Match}{K:Nat→Nat→AObj→Prop}{G:Nat→List Nat→Prop}{w:World}(h:jI B lo0 M K G w){n nx r:Nat}{p:dV}{ob:AObj}(hn:n≤nx)(aj:lo0≤nx)(hm:M r=some p)
  (nP:iZ (decide (lo0≤r)) (below M n) p w ob) (hg:∀ c g z t,ob= .row c (some (g,z)) t→g<n):Rel B lo0 (below M n) {objs:=Tr.nil.set r ob,grps:=Tr.nil,next:=nx,lo:=nx} w where
 base:=h.base
 fJ:=h.fJ
 lo:=aj
 ag:=wy _
 dom r p hr:=by
  obtain⟨h1,h2⟩:=dt.1 hr
  obtain⟨a,b,c⟩:=h.dom r p h2
  exact⟨wq h1 hn,a,b,c⟩
 obj r' p' o hr ho:=by
  obtain⟨rfl,rfl⟩:=tK ho
  have:=(dt.1 hr).2
  rw[hm]at this;cases this
  exact nP
 sep r1 r2 p1 p2 o1 o2 a9 hl km dW tL qp hb:=by
  obtain⟨rfl,_⟩:=tK tL
  obtain⟨rfl,_⟩:=tK qp
  exact absurd rfl a9
 dF r1 r2 p1 p2 c c' g z z' km dW tL qp:=by
  obtain⟨rfl,_⟩:=tK tL
  obtain⟨rfl,_⟩:=tK qp
  rfl
 aS r1 p1 c g z km tL l hl:=by simp[Tr.get_nil]at hl
 ends r1 r2 p1 p2 c c' g z z' t km dW tL qp hb:=by
  obtain⟨rfl,h1⟩:=tK tL
  obtain⟨rfl,h2⟩:=tK qp
  rw[km]at dW;cases dW
  rw[←h1]at h2;cases h2
  exact wy _
 bH r1 p1 c g z t km tL:=by
  obtain⟨rfl,h1⟩:=tK tL
  exact wq (hg c g z t h1.symm) hn
end
section
variable{B lo0:Nat}{m:Match}{w:World}{P:Program}{ops:Array Oper}{size:Nat}
theorem Lt{m:Match}{u u':Value}{r:Nat}(hu:VRel m u u')(hr:rowOfV u=some r):∃ p,m r=some p:=by
 cases hu<;>simp only[rowOfV,reduceCtorEq,wi]at hr
 ·rename_i h;subst hr;exact⟨_,h⟩
 ·rename_i h _ _ _;subst hr;exact⟨_,h⟩
 ·rename_i h _;subst hr;exact⟨_,h⟩
 ·rename_i h;subst hr;exact⟨_,h⟩
end
section
variable[Maps]{B lo0:Nat}{E:Env}
structure Setup(E:Env)(call:dc)(ops:Array Oper)(bf:List Info)(size:Nat)(T:Nat→Tr Value)(H:Nat→Heap)(v:Nat→Value)(wt:Nat→Bool):Prop where
 env:EnvOk E
 low:nL call
 stat:Stat ops bf
 text:Text E call ops.toList size ops.toList bf T H v wt
 lo:(H 0).lo≤(H 0).next
 tm:∀ t u,(T 0).get t=some u→t<size
 size:Maps.aX size=true
 next:Maps.aX (H ops.size).next=true
variable{call:dc}{ops:Array Oper}{bf:List Info}{size:Nat}{T:Nat→Tr Value}{H:Nat→Heap}{v:Nat→Value}{wt:Nat→Bool}
end
section
variable{B lo0:Nat}{m:Match}{w:World}{P:Program}{ops:Array Oper}{size:Nat}
theorem jJ{i:Nat}{o:Oper}(h:ops[i]? =some o):ops.toList[i]? =some o:=by rw[wao];exact h
theorem jK{i:Nat}{o:Oper}(h:ops[i]? =some o):i<ops.size:=(w0.1 h).1
theorem tM{i:Nat}(h:i<ops.size):∃ o,ops[i]? =some o:=⟨ops[i],wa0 h⟩
end
section
variable[Maps]{B lo0:Nat}{E:Env}
variable{call:dc}{ops:Array Oper}{bf:List Info}{size:Nat}{T:Nat→Tr Value}{H:Nat→Heap}{v:Nat→Value}{wt:Nat→Bool}
theorem Setup.Lu(hS:Setup E call ops bf size T H v wt){i:Nat}{o:Oper}(ho:ops[i]? =some o)(hl:(H i).lo≤(H i).next):dC (H i) (H (i+1)):=by
 cases hw:wt i with
 |false=>rw[(hS.text.skip i o (jJ ho) hw).2];exact .refl _
 |true=>
  obtain⟨br,hi⟩:=hS.stat.info i o ho
  obtain⟨_,H',h1,h2⟩:=hS.text.done i o br (jJ ho) hi hw
  rw[h2]
  exact Lv hl br.grow (zK hS.low (by cases br.grow<;>simp<;>omega) h1)
theorem Setup.zL(hS:Setup E call ops bf size T H v wt):∀ i,i≤ops.size→(H i).lo=(H 0).lo∧(H i).lo≤(H i).next∧(H 0).next≤(H i).next
 |0,_=>⟨rfl,hS.lo,wy _⟩
 |i+1,h=>by
  obtain⟨h1,h2,h3⟩:=hS.zL i (by omega)
  obtain⟨o,ho⟩:=tM (ops:=ops) (i:=i) (by omega)
  have:=hS.Lu ho h2
  exact⟨this.lo.trans h1,this.ok h2,wK h3 this.ag⟩
theorem Setup.xS(hS:Setup E call ops bf size T H v wt){i:Nat}{o:Oper}(ho:ops[i]? =some o):dC (H i) (H (i+1)):=hS.Lu ho (hS.zL i (waz (jK ho))).2.1
theorem Setup.mono(hS:Setup E call ops bf size T H v wt){i j:Nat}(h:i≤j)(hj:j≤ops.size):(H i).next≤(H j).next:=by
 induction j with
 |zero=>have:i=0:=by omega
        rw[this];exact wy _
 |succ j ih=>
  by_cases kp:i=j+1
  ·rw[kp];exact wy _
  ·obtain⟨o,ho⟩:=tM (ops:=ops) (i:=j) (by omega)
   exact wK (ih (by omega) (by omega)) (hS.xS ho).ag
theorem Setup.tN(hS:Setup E call ops bf size T H v wt):∀ i,i≤ops.size→∀ t u,(T i).get t=some u→t<size
 |0,_,t,u,h=>hS.tm t u h
 |i+1,hi,t,u,h=>by
  obtain⟨o,ho⟩:=tM (ops:=ops) (i:=i) (by omega)
  have hp:=hS.text.put i o (jJ ho)
  cases hd:o.dst with
  |none=>rw[hd]at hp;simp only[gW,wi]at hp;rw[←hp]at h;exact hS.tN i (by omega) t u h
  |some d=>
   rw[hd]at hp
   simp only[gW]at hp
   obtain⟨h1,h2⟩:=cr hp
   simp only[Tr.force_eq,wi]at h2
   rw[←h2]at h
   rcases Tr.dq h with⟨rfl,_⟩|⟨_,h3⟩
   ·exact wan h1
   ·exact hS.tN i (by omega) t u h3
theorem Setup.Tg(hS:Setup E call ops bf size T H v wt){i:Nat}{o:Oper}(ho:ops[i]? =some o){t:Tmp}(hd:o.dst≠some t)(ht:t<size):(T (i+1)).get t=(T i).get t:=by
 have hp:=hS.text.put i o (jJ ho)
 cases jk:o.dst with
 |none=>rw[jk]at hp;simp only[gW,wi]at hp;rw[hp]
 |some d=>
  rw[jk]at hp
  simp only[gW]at hp
  obtain⟨h1,h2⟩:=cr hp
  simp only[Tr.force_eq,wi]at h2
  rw[←h2]
  exact Tr.vd (fun h=>hd (by rw[jk,h])) (Maps.rM hS.size (waz ht))
theorem Setup.Lw(hS:Setup E call ops bf size T H v wt){i:Nat}{o:Oper}(ho:ops[i]? =some o){t:Tmp}(hd:o.dst=some t){u:Value}(h:(T (i+1)).get t=some u):u=v i:=by
 have hp:=hS.text.put i o (jJ ho)
 rw[hd]at hp
 simp only[gW]at hp
 obtain⟨h1,h2⟩:=cr hp
 simp only[Tr.force_eq,wi]at h2
 rw[←h2]at h
 rcases Tr.dq h with⟨_,h⟩|⟨h,_⟩
 ·exact h
 ·exact absurd rfl h
theorem Setup.same(hS:Setup E call ops bf size T H v wt){t:Tmp}(ht:t<size){a b:Nat}(CE:a≤b)(hb:b≤ops.size)(h:∀ j o,a≤j→j<b→ops[j]? =some o→o.dst≠some t):(T b).get t=(T a).get t:=by
 induction b with
 |zero=>have:a=0:=by omega
        rw[this]
 |succ b ih=>
  by_cases Th:a=b+1
  ·rw[Th]
  ·obtain⟨o,ho⟩:=tM (ops:=ops) (i:=b) (by omega)
   rw[hS.Tg ho (h b o (by omega) (by omega) ho) ht]
   exact ih (by omega) (by omega) fun j o h1 h2=>h j o h1 (by omega)
theorem Setup.still(hS:Setup E call ops bf size T H v wt){i:Nat}{o:Oper}(ho:ops[i]? =some o)(h:wt i=false∨kindOf o.op= .pure∨kindOf o.op= .load):H (i+1)=H i:=by
 cases hw:wt i with
 |false=>exact(hS.text.skip i o (jJ ho) hw).2
 |true=>
  rw[hw]at h
  obtain⟨br,hi⟩:=hS.stat.info i o ho
  obtain⟨_,H',h1,h2⟩:=hS.text.done i o br (jJ ho) hi hw
  rw[h2]
  rcases h with h|h|h
  ·cases h
  ·rw[(Ly h h1).1]
  ·rw[(FB h h1).1]
theorem Setup.alloc(hS:Setup E call ops bf size T H v wt){i:Nat}{o:Oper}(ho:ops[i]? =some o)(hk:kindOf o.op= .alloc)(hw:wt i=true):
  ∃ob,ve ob∧(H (i+1)).next=(H i).next+1∧(H (i+1)).grps=(H i).grps∧(∀r x,(H (i+1)).objs.get r=some x→(r=(H i).next∧x=ob)∨(r≠(H i).next∧(H i).objs.get r=some x))∧
   ∀Hx:Heap,Hx.next=(H i).next→exOp E call (T i) o Hx=some (v i,Hx.add ob):=by
 obtain⟨br,hi⟩:=hS.stat.info i o ho
 obtain⟨_,H',h1,h2⟩:=hS.text.done i o br (jJ ho) hi hw
 obtain⟨ob,h3,h4,h5⟩:=Ti hk h1
 refine⟨ob,h3,?_,?_,fun r x hx=>?_,fun Hx hx=>h5 Hx hx⟩
 ·rw[h2,h4];simp[ja]
 ·rw[h2,h4];simp[zM]
 ·rw[h2,h4]at hx
  exact FC (H:={objs:=(H i).objs,grps:=(H i).grps,next:=(H i).next,lo:=bif br.grow then(H i).next else(H i).lo}) hx
def FD(ops:Array Oper)(j:Nat):Prop:=∃ o,ops[j]? =some o∧kindOf o.op= .alloc
def rN(ops:Array Oper)(H:Nat→Heap)(S:Nat→Prop)(c:Nat)(u r:Nat)(o:AObj):Prop:=
 (u=(H c).next∧r<(H c).next∧(H c).objs.get r=some o)∨
 ∃j,c≤j∧j<ops.size∧S j∧FD ops j∧(H j).next≤r∧r<(H (j+1)).next∧u=(H (j+1)).next∧(H (j+1)).objs.get r=some o∧ve o
def qs(E:Env)(ty:TypeId)(v:Value)(m:Match)(p:dV)(q:Nat)(w:World):Prop:=
 ∃(i:TI) (cs iI:List Value) (C:Array Value) (e:TypeId) (fr:Nat×Nat),E.ty.get ty=some i∧w.heap[p.ax]? =some (.cells C e fr)∧cs.length=(bif i.agg then i.size else 1)∧LRel m cs iI∧(∀j,j<cs.length→C[p.base+q+j]? =iI[j]?)∧
  (i.agg=true→v= .agg cs.toArray)∧(i.agg=false→cs[0]? =some v)
def lR(E:Env)(call:dc)(lo0:Nat)(T:Tr Value)(n:Nat)(v:Value)(o:Oper)(M:Match)(w:World):Prop:=
 (∀Hx,exOp E call T o Hx=some (v,Hx))∨(∃x u r,loadsFrom o.op=some x∧ev T x=some u∧rowOfV u=some r∧(r<n→∀ p,M r=some p→
  ∃ob,iZ (decide (lo0≤r)) (below M n) p w ob∧(∀c g z t,ob= .row c (some (g,z)) t→g<n)∧∀ Hx:Heap,Hx.objs.get r=some ob→exOp E call T o Hx=some (v,Hx)))∨
 ∃ty x r q,o.op= .load ty x∧ev T x=some (ptr r q)∧(r<n→∀ p,M r=some p→qs E ty v (below M n) p q w)
structure Inv(E:Env)(call:dc)(ops:Array Oper)(bf:List Info)(size:Nat)(T:Nat→Tr Value)(H:Nat→Heap)(v:Nat→Value)(wt:Nat→Bool)(B lo0:Nat)(m:Match)(w₀:World)(a₀:Act)
  (S:Nat→Prop) (c:Nat) (M:Match) (a:Act) (w:World):Prop where
 lt:∀ j,S j→j<ops.size
 closed:∀ i j,S i→dG ops i j→S j
 cN:c≤ops.size
 cU:∀ (e:Nat) (o:Oper),ops[e]? =some o→dY o→(S e↔e<c)
 CF:∀ (j:Nat) (o:Oper),ops[j]? =some o→kindOf o.op= .alloc→j<c→S j
 out:vg m (H 0) w₀ (fun i=>(H i).next) S M w
 rk:jI B lo0 M (rN ops H S c) (fun g l=>(H c).grps.get g=some l) w
 zN:∀ j r p,c≤j→S j→FD ops j→(H j).next≤r→r<(H (j+1)).next→M r=some p→∀ r' p',r'≠r→M r'=some p'→p'.ax≠p.ax
 Lz:∀ (l:Nat) (o:Oper),ops[l]? =some o→kindOf o.op= .load→l<c→¬ S l→wt l=true→lR E call lo0 (T l) (H l).next (v l) o M w
 zO:a.tmps.size=size
 tmps:∀ (t k:Nat),k≤ops.size→(∀(j:Nat) (o:Oper),ops[j]? =some o→o.dst=some t→(S j↔j<k))→∀ u,(T k).get t=some u→∃ u',a.tmps[t]? =some u'∧VRel (below M (H k).next) u u'
 cz:∀ t,(∀(j:Nat) (o:Oper),ops[j]? =some o→o.dst≠some t)→a.tmps[t]? =a₀.tmps[t]?
 defers:a.defers=a₀.defers
variable{m:Match}{w₀:World}{a₀:Act}{S:Nat→Prop}{c:Nat}{M:Match}{a:Act}{w:World}
theorem Inv.vh(hS:Setup E call ops bf size T H v wt)(I:Inv E call ops bf size T H v wt B lo0 m w₀ a₀ S c M a w){i:Nat}(hi:¬ S i)(hlt:i<ops.size){r:Nat}{p:dV}(hr:M r=some p):¬ ((H i).next≤r∧r<(H (i+1)).next):=by
 rintro⟨h1,h2⟩
 rcases I.out.dom r p hr with⟨_,h⟩|⟨_,j,h3,h4,h5⟩
 ·have:=hS.mono (wJ i) (waz hlt)
  omega
 ·have hj:=I.lt j h3
  by_cases jL:j=i
  ·subst jL;exact hi h3
  ·by_cases lU:j<i
   ·have:=hS.mono (i:=j+1) (j:=i) lU (waz hlt);omega
   ·have:=hS.mono (i:=i+1) (j:=j) (by omega) (waz hj);omega
theorem Inv.trace(hS:Setup E call ops bf size T H v wt)(I:Inv E call ops bf size T H v wt B lo0 m w₀ a₀ S c M a w)(d:Nat):c+d≤ops.size→
  (∀(e:Nat) (o:Oper),c≤e→e<c+d→ops[e]? =some o→dY o→wt e=true→∃ br,bf[e]? =some br∧br.grow=true)→
  ∀r p o,M r=some p→r<(H (c+d)).next→(H (c+d)).objs.get r=some o→∃ u,u≤(H (c+d)).next∧rN ops H S c u r o:=by
 induction d with
 |zero=>intro _ _ r p o _ hr ho;exact⟨_,wy _,.inl ⟨rfl,hr,ho⟩⟩
 |succ d ih=>
  intro hN he r p o hm hr ho
  have ih:=ih (by omega) (fun e o h1 h2=>he e o h1 (by omega))
  obtain⟨op,bW⟩:=tM (ops:=ops) (i:=c+d) (by omega)
  rw[show c+(d+1)=c+d+1 by omega]at hr ho⊢
  have xT:(H (c+d)).next≤(H (c+d+1)).next:=(hS.xS bW).ag
  have vi:H (c+d+1)=H (c+d)→∃ u,u≤(H (c+d+1)).next∧rN ops H S c u r o:=fun h=>by
   rw[h]at hr ho⊢
   exact ih r p o hm hr ho
  cases hw:wt (c+d)with
  |false=>exact vi (hS.still bW (.inl hw))
  |true=>
   cases hk:kindOf op.op with
   |pure=>exact vi (hS.still bW (.inr (.inl hk)))
   |load=>exact vi (hS.still bW (.inr (.inr hk)))
   |alloc=>
    obtain⟨ob,h1,h2,_,h4,_⟩:=hS.alloc bW hk hw
    rcases h4 r o ho with⟨h5,h6⟩|⟨h5,h6⟩
    ·have FE:S (c+d):=by
      apply wbK
      intro hn
      exact I.vh hS hn (jK bW) hm ⟨by omega,by omega⟩
     exact⟨_,wy _,.inr ⟨c+d,by omega,jK bW,FE,⟨op,bW,hk⟩,by omega,hr,rfl,ho,by rw[h6];exact h1⟩⟩
    ·obtain⟨u,h7,h8⟩:=ih r p o hm (by omega) h6
     exact⟨u,by omega,h8⟩
   |_=>
    have zP:dY op:=by
     first
     |exact .inl hk
     |exact .inr hk
    obtain⟨br,h1,h2⟩:=he (c+d) op (by omega) (by omega) bW zP hw
    have hn:¬ S (c+d):=fun h=>by have:=(I.cU _ _ bW zP).1 h;omega
    have hlt:r<(H (c+d)).next:=by
     have:=I.vh hS hn (jK bW) hm
     omega
    obtain⟨_,H',h3,h4⟩:=hS.text.done (c+d) op br (jJ bW) h1 hw
    have hl:=zK hS.low (by rw[h2];simp) h3
    have:=hl.low r o (by rw[h2];exact hlt) (by rw[h4]at ho;exact ho)
    obtain⟨u,h7,h8⟩:=ih r p o hm hlt this
    exact⟨u,by omega,h8⟩
theorem Inv.Tj(hS:Setup E call ops bf size T H v wt)(I:Inv E call ops bf size T H v wt B lo0 m w₀ a₀ S c M a w)(d:Nat):c+d≤ops.size→
  (∀(e:Nat) (o:Oper),c≤e→e<c+d→ops[e]? =some o→dY o→wt e=true→∃ br,bf[e]? =some br∧(br.grow=true∨(appOf o.op).isSome=true∧br.apart≠[]))→
  ∀r p cs tp,M r=some p→r<(H (c+d)).next→(H (c+d)).objs.get r=some (.row cs none tp)→∃ u,u≤(H (c+d)).next∧rN ops H S c u r (.row cs none tp):=by
 induction d with
 |zero=>intro _ _ r p cs tp _ hr ho;exact⟨_,wy _,.inl ⟨rfl,hr,ho⟩⟩
 |succ d ih=>
  intro hN he r p cs tp hm hr ho
  have ih:=ih (by omega) (fun e o h1 h2=>he e o h1 (by omega))
  obtain⟨op,bW⟩:=tM (ops:=ops) (i:=c+d) (by omega)
  rw[show c+(d+1)=c+d+1 by omega]at hr ho⊢
  have xT:(H (c+d)).next≤(H (c+d+1)).next:=(hS.xS bW).ag
  have vi:H (c+d+1)=H (c+d)→∃ u,u≤(H (c+d+1)).next∧rN ops H S c u r (.row cs none tp):=fun h=>by
   rw[h]at hr ho⊢
   exact ih r p cs tp hm hr ho
  cases hw:wt (c+d)with
  |false=>exact vi (hS.still bW (.inl hw))
  |true=>
   cases hk:kindOf op.op with
   |pure=>exact vi (hS.still bW (.inr (.inl hk)))
   |load=>exact vi (hS.still bW (.inr (.inr hk)))
   |alloc=>
    obtain⟨ob,h1,h2,_,h4,_⟩:=hS.alloc bW hk hw
    rcases h4 r _ ho with⟨h5,h6⟩|⟨h5,h6⟩
    ·have FE:S (c+d):=by
      apply wbK
      intro hn
      exact I.vh hS hn (jK bW) hm ⟨by omega,by omega⟩
     exact⟨_,wy _,.inr ⟨c+d,by omega,jK bW,FE,⟨op,bW,hk⟩,by omega,hr,rfl,ho,by rw[h6];exact h1⟩⟩
    ·obtain⟨u,h7,h8⟩:=ih r p cs tp hm (by omega) h6
     exact⟨u,by omega,h8⟩
   |_=>
    have zP:dY op:=by
     first
     |exact .inl hk
     |exact .inr hk
    obtain⟨br,h1,h2⟩:=he (c+d) op (by omega) (by omega) bW zP hw
    have hn:¬ S (c+d):=fun h=>by have:=(I.cU _ _ bW zP).1 h;omega
    have hlt:r<(H (c+d)).next:=by
     have:=I.vh hS hn (jK bW) hm
     omega
    obtain⟨di,H',h3,h4⟩:=hS.text.done (c+d) op br (jJ bW) h1 hw
    have this:(H (c+d)).objs.get r=some (.row cs none tp):=by
     rw[h4]at ho
     rcases h2 with h2|⟨h2,h5⟩
     ·have hl:=zK hS.low (by rw[h2];simp) h3
      exact hl.low r _ (by rw[h2];exact hlt) ho
     ·obtain⟨args,ha⟩:=wci.1 h2
      have Fs:lateBase (T (c+d)) (H (c+d)) args=true:=by
       revert di h5
       cases br.apart with
       |nil=>exact fun _ h=>absurd rfl h
       |cons q l=>intro di _;simpa only[storeApart,ha]using di
      exact Tk h3 ha Fs hlt ho
    obtain⟨u,h7,h8⟩:=ih r p cs tp hm hlt this
    exact⟨u,by omega,h8⟩
theorem Inv.grps(hS:Setup E call ops bf size T H v wt)(_I:Inv E call ops bf size T H v wt B lo0 m w₀ a₀ S c M a w)(d:Nat):c+d≤ops.size→
  (∀(e:Nat) (o:Oper),c≤e→e<c+d→ops[e]? =some o→dY o→wt e=false)→(H (c+d)).grps=(H c).grps:=by
 induction d with
 |zero=>intro _ _;rfl
 |succ d ih=>
  intro hN he
  have ih:=ih (by omega) (fun e o h1 h2=>he e o h1 (by omega))
  obtain⟨op,bW⟩:=tM (ops:=ops) (i:=c+d) (by omega)
  rw[show c+(d+1)=c+d+1 by omega,←ih]
  cases hw:wt (c+d)with
  |false=>rw[hS.still bW (.inl hw)]
  |true=>
   cases hk:kindOf op.op with
   |pure=>rw[hS.still bW (.inr (.inl hk))]
   |load=>rw[hS.still bW (.inr (.inr hk))]
   |alloc=>obtain⟨_,_,_,h3,_⟩:=hS.alloc bW hk hw;exact h3
   |store=>have:=he (c+d) op (by omega) (by omega) bW (.inl hk);rw[hw]at this;cases this
   |call=>have:=he (c+d) op (by omega) (by omega) bW (.inr hk);rw[hw]at this;cases this
theorem Inv.looks(hS:Setup E call ops bf size T H v wt)(I:Inv E call ops bf size T H v wt B lo0 m w₀ a₀ S c M a w){i:Nat}{o:Oper}(ho:ops[i]? =some o)(hi:¬ S i)(hd:∀ j,dG ops i j→S j):
  ∃T2,fy (below M (H i).next) T2 a.tmps∧(∀x∈o.op.operands.toList,ev T2 x=ev (T i) x)∧wantedA T2 ops.toList o=wantedA (T i) ops.toList o:=by
 have hlt:=jK ho
 have Tl:∀ t,(t∈looksOf ops.toList o∨∀ (j:Nat) (p:Oper),ops[j]? =some p→p.dst≠some t)→∀ u,(T i).get t=some u→∃ u',a.tmps[t]? =some u'∧VRel (below M (H i).next) u u':=fun t ht u hu=>by
  refine I.tmps t i (waz hlt) (fun j p hp qt=>?_) u hu
  rcases ht with ht|ht
  ·rcases hS.stat.tmps i o j p t ho hp qt (.inr ht)with rfl|h|h
   ·exact⟨fun h=>absurd h hi,fun h=>by omega⟩
   ·exact⟨fun _=>h.lt hS.stat.rO,fun _=>hd j h⟩
   ·have:=h.lt hS.stat.rO
    exact⟨fun h'=>absurd (I.closed j i h' h) hi,fun h=>by omega⟩
  ·exact absurd qt (ht j p hp)
 let D:=(ops.toList.filterMap (·.dst)).filter fun t=> !(looksOf ops.toList o).contains t
 have LA:∀ t u,(dropAll D (T i)).get t=some u→(T i).get t=some u∧(t∈looksOf ops.toList o∨∀ (j:Nat) (p:Oper),ops[j]? =some p→p.dst≠some t):=fun t u h=>by
  obtain⟨h1,h2⟩:=LB h
  refine⟨h2,?_⟩
  by_cases hl:t∈looksOf ops.toList o
  ·exact .inl hl
  ·refine .inr fun j p hp qt=>h1 ?_
   simp only[D,List.mem_filter,wcz,wbt,List.contains_eq_mem,wal]
   exact⟨⟨p,wag (jJ hp),qt⟩,hl⟩
 have zQ:∀ t,t∈looksOf ops.toList o→(dropAll D (T i)).get t=(T i).get t:=fun t ht=>by
  cases hg:(T i).get t with
  |none=>
   cases zR:(dropAll D (T i)).get t with
   |none=>rfl
   |some u=>rw[(LA t u zR).1]at hg;cases hg
  |some u=>
   have:=hS.tN i (waz hlt) t u hg
   rw[LC (Maps.rM hS.size (waz this)),hg]
   intro h
   simp[D,ht]at h
 refine⟨dropAll D (T i),fun t u h=>?_,fun x hx=>?_,?_⟩
 ·obtain⟨h1,h2⟩:=LA t u h
  exact Tl t h2 u h1
 ·cases x with
  |tmp t=>
   refine zQ t ?_
   have:t∈tmpsOf o.op.operands.toList:=LD hx
   unfold looksOf
   split
   ·exact wM _ this
   ·exact this
  |_=>rfl
 ·unfold wantedA
  cases hg:o.guard with
  |none=>rfl
  |some jw=>
   obtain⟨j,b⟩:=jw
   simp only
   cases jk:(ops.toList[j]?).bind (·.dst)with
   |none=>rfl
   |some d=>
    have:d∈looksOf ops.toList o:=by
     unfold looksOf Ls
     simp only[hg,jk]
     exact wW ..
    simp only[zQ d this]
theorem Inv.FF(hS:Setup E call ops bf size T H v wt)(I:Inv E call ops bf size T H v wt B lo0 m w₀ a₀ S c M a w){i:Nat}{o:Oper}(ho:ops[i]? =some o)(hi:¬ S i)(hd:∀ j,dG ops i j→S j){M':Match}(cp:M.le M'){v':Value}
  (hv:VRel (below M' (H (i+1)).next) (v i) v') (t k:Nat) (hk:k≤ops.size) (hw:∀ (j:Nat) (p:Oper),ops[j]? =some p→p.dst=some t→((S j∨j=i)↔j<k)) (u:Value) (hu:(T k).get t=some u):
  ∃u',(a.put o.dst v').tmps[t]? =some u'∧VRel (below M' (H k).next) u u':=by
 have ht:t<size:=hS.tN k hk t u hu
 by_cases xU:o.dst=some t
 ·have hik:i<k:=(hw i o ho xU).1 (.inr rfl)
  have fK:∀ j p,i+1≤j→j<k→ops[j]? =some p→p.dst≠some t:=fun j p h1 h2 hp qt=>by
   have hj:S j:=((hw j p hp qt).2 h2).resolve_right (by omega)
   rcases hS.stat.tmps i o j p t ho hp qt (.inl xU)with h|h|h
   ·omega
   ·have:=h.lt hS.stat.rO;omega
   ·exact hi (I.closed j i hj h)
  rw[hS.same ht (show i+1≤k by omega) hk fK]at hu
  have:=hS.Lw ho xU hu
  subst this
  refine⟨v',?_,hv.mono (zS M' (hS.mono (by omega) hk))⟩
  rw[xU,vj,wb7 (by rw[I.zO];exact ht)]
 ·obtain⟨u',h1,h2⟩:=I.tmps t k hk (fun j p hp qt=>by
   have:=hw j p hp qt
   have jL:j≠i:=fun h=>by subst h;rw[ho]at hp;cases hp;exact xU qt
   exact⟨fun h=>this.1 (.inl h),fun h=>(this.2 h).resolve_right jL⟩) u hu
  refine⟨u',?_,h2.mono (rP cp _)⟩
  cases zT:o.dst with
  |none=>exact h1
  |some d=>rw[vj,wa8 (fun h=>xU (by rw[zT,h]))];exact h1
theorem Inv.vk(hS:Setup E call ops bf size T H v wt)(I:Inv E call ops bf size T H v wt B lo0 m w₀ a₀ S c M a w){i:Nat}{o:Oper}(ho:ops[i]? =some o)(hi:¬ S i)(hd:∀ j,dG ops i j→S j)(he:dY o):
  c≤i∧(∀(e:Nat) (p:Oper),ops[e]? =some p→dY p→e<i→S e)∧(∀(e:Nat) (p:Oper),ops[e]? =some p→dY p→i<e→¬ S e)∧(∀(e:Nat) (p:Oper),c≤e→e<i→ops[e]? =some p→¬ dY p):=by
 have h1:∀ (e:Nat) (p:Oper),ops[e]? =some p→dY p→e<i→S e:=fun e p hp dp hlt=>by
  rcases hS.stat.cU i o e p ho hp he dp with h|h|h
  ·omega
  ·exact hd e h
  ·have:=h.lt hS.stat.rO;omega
 refine⟨?_,h1,fun e p hp dp hlt h=>?_,fun e p h2 h3 hp dp=>?_⟩
 ·apply wcF
  intro h
  exact hi ((I.cU i o ho he).2 h)
 ·rcases hS.stat.cU i o e p ho hp he dp with h'|h'|h'
  ·omega
  ·have:=h'.lt hS.stat.rO;omega
  ·exact hi (I.closed e i h h')
 ·have:=(I.cU e p hp dp).1 (h1 e p hp dp h3)
  omega
def upto(c i:Nat)(o:Oper):Nat:=
 match kindOf o.op with
 | .store=>i+1
 | .call=>i+1
 |_=>c
end
section
variable{B lo0:Nat}{m:Match}{w:World}{P:Program}{ops:Array Oper}{size:Nat}
theorem tO{c i:Nat}{o:Oper}(h:dY o):upto c i o=i+1:=by rcases h with h|h<;>simp[upto,h]
theorem tP{c i:Nat}{o:Oper}(h:¬ dY o):upto c i o=c:=by
 unfold upto
 split
 ·rename_i h';exact absurd (.inl h') h
 ·rename_i h';exact absurd (.inr h') h
 ·rfl
end
section
variable[Maps]{B lo0:Nat}{E:Env}
variable{call:dc}{ops:Array Oper}{bf:List Info}{size:Nat}{T:Nat→Tr Value}{H:Nat→Heap}{v:Nat→Value}{wt:Nat→Bool}
variable{m:Match}{w₀:World}{a₀:Act}{S:Nat→Prop}{c:Nat}{M:Match}{a:Act}{w:World}
theorem Inv.plain(hS:Setup E call ops bf size T H v wt)(I:Inv E call ops bf size T H v wt B lo0 m w₀ a₀ S c M a w){i:Nat}{o:Oper}(ho:ops[i]? =some o)(hi:¬ S i)(hd:∀ j,dG ops i j→S j):
  (∀j,S j∨j=i→j<ops.size)∧(∀k j,S k∨k=i→dG ops k j→S j∨j=i)∧upto c i o≤ops.size∧(∀(e:Nat) (p:Oper),ops[e]? =some p→dY p→((S e∨e=i)↔e<upto c i o))∧
  (∀(j:Nat) (p:Oper),ops[j]? =some p→kindOf p.op= .alloc→j<upto c i o→S j∨j=i):=by
 have hlt:=jK ho
 refine⟨fun j h=>h.elim (I.lt j) (fun h=>h▸hlt),fun k j h LF=>h.elim (fun h=> .inl (I.closed k j h LF)) (fun h=> .inl (hd j (h▸LF))),?_,fun e p hp dp=>?_,fun j p hp hk hj=>?_⟩
 ·by_cases he:dY o
  ·rw[tO he];omega
  ·rw[tP he];exact I.cN
 ·by_cases he:dY o
  ·rw[tO he]
   obtain⟨_,h1,h2,_⟩:=I.vk hS ho hi hd he
   constructor
   ·rintro(h|h)
    ·apply Nat.lt_succ_of_le
     apply wcF
     intro h'
     exact h2 e p hp dp h' h
    ·omega
   ·intro h
    by_cases FG:e=i
    ·exact .inr FG
    ·exact .inl (h1 e p hp dp (by omega))
  ·rw[tP he]
   have FG:e≠i:=fun h=>by subst h;rw[ho]at hp;cases hp;exact he dp
   rw[←I.cU e p hp dp]
   exact⟨fun h=>h.resolve_right FG,.inl⟩
 ·by_cases he:dY o
  ·rw[tO he]at hj
   have jL:j≠i:=fun h=>by subst h;rw[ho]at hp;cases hp;rcases he with he|he<;>rw[hk]at he<;>cases he
   exact .inl (hd j (hS.stat.CF i o j p ho hp he hk (by omega)))
  ·rw[tP he]at hj
   exact .inl (I.CF j p hp hk hj)
theorem Inv.FH(hS:Setup E call ops bf size T H v wt)(I:Inv E call ops bf size T H v wt B lo0 m w₀ a₀ S c M a w){l:Nat}{o:Oper}(ho:ops[l]? =some o)(hk:kindOf o.op= .load)(hl:¬ S l)(hw:wt l=true)
  (hg:∀ (e:Nat) (p:Oper),c≤e→e<l→ops[e]? =some p→dY p→wt e=true→∃ br,bf[e]? =some br∧br.grow=true):lR E call lo0 (T l) (H l).next (v l) o M w:=by
 by_cases rQ:l<c
 ·exact I.Lz l o ho hk rQ hl hw
 ·obtain⟨br,hi⟩:=hS.stat.info l o ho
  obtain⟨_,H',h1,h2⟩:=hS.text.done l o br (jJ ho) hi hw
  rcases(FB hk h1).2 with h|⟨x,u,r,ob,h3,h4,h5,h6,h7⟩
  ·exact .inl h
  ·refine .inr (.inl ⟨x,u,r,h3,h4,h5,fun hr p hp=>?_⟩)
   have:=I.trace hS (l-c) (by have:=jK ho;omega) (fun e p h1 h2=>hg e p h1 (by omega)) r p ob hp (by rw[show c+(l-c)=l by omega];exact hr) (by rw[show c+(l-c)=l by omega];exact h6)
   rw[show c+(l-c)=l by omega]at this
   obtain⟨u',h8,h9⟩:=this
   refine⟨ob,(I.rk.obj u' r p ob hp h9).mono (zS M h8) rfl,fun cs g z t nP=>?_,h7⟩
   subst nP
   have:=I.rk.bH u' r p cs g z t hp h9
   omega
theorem Inv.Tm(hS:Setup E call ops bf size T H v wt)(I:Inv E call ops bf size T H v wt B lo0 m w₀ a₀ S c M a w){l:Nat}{o:Oper}(ho:ops[l]? =some o)(hk:kindOf o.op= .load)(hl:¬ S l)(hw:wt l=true)
  (hg:∀ (e:Nat) (p:Oper),c≤e→e<l→ops[e]? =some p→dY p→wt e=true→∃ br,bf[e]? =some br∧(br.grow=true∨((appOf p.op).isSome=true∧br.apart≠[])∧(∃ty x,o.op= .load ty x)∧∀ gH,bf[l]? =some gH→gH.apart≠[])):lR E call lo0 (T l) (H l).next (v l) o M w:=by
 by_cases FI:∃ (e:Nat) (p:Oper) (br:Info),c≤e∧e<l∧ops[e]? =some p∧dY p∧wt e=true∧bf[e]? =some br∧(∃ty x,o.op= .load ty x)∧∀ gH,bf[l]? =some gH→gH.apart≠[]
 ·obtain⟨e,p,zh0,e1,e2,e3,e4,e5,e6,⟨ty,x,bW⟩,e8⟩:=FI
  have rQ:¬ l<c:=by omega
  obtain⟨br,hi⟩:=hS.stat.info l o ho
  obtain⟨di,H',h1,h2⟩:=hS.text.done l o br (jJ ho) hi hw
  rcases(FB hk h1).2 with h|⟨x',u,r,ob,h3,h4,h5,h6,h7⟩
  ·exact .inl h
  ·have Tn:∃ cs tp,ob= .row cs none tp:=by
    have a9:=e8 br hi
    rw[bW]at h3
    simp only[loadsFrom,wi]at h3
    subst h3
    revert di a9
    cases br.apart with
    |nil=>exact fun _ h=>absurd rfl h
    |cons q t=>
     intro di _
     rw[bW]at di
     simp only[storeApart,appOf]at di
     split at di
     ·rename_i r' k' n' hf
      simp only[footOf,h4,wo,we]at hf
      obtain⟨i,_,hf⟩:=hf
      split at hf
      ·rename_i r2 o2
       simp only[wi,wk]at hf
       simp only[rowOfV,wi]at h5
       have e9:r'=r:=by rw[←hf.1,h5]
       subst e9
       split at di
       ·rename_i cs tp aG
        have tQ:(H l).objs.get r'=some ob:=h6
        rw[aG]at tQ
        exact⟨cs,tp,(waH tQ).symm⟩
       ·cases di
      ·cases hf
     ·cases di
   obtain⟨cs,tp,rfl⟩:=Tn
   refine .inr (.inl ⟨x',u,r,h3,h4,h5,fun hr p hp=>?_⟩)
   have:=I.Tj hS (l-c) (by have:=jK ho;omega) (fun e p h1 h2 h3 h4 h5=>by
    obtain⟨br,q1,q2⟩:=hg e p h1 (by omega) h3 h4 h5
    exact⟨br,q1,q2.imp id fun q=>q.1⟩) r p cs tp hp (by rw[show c+(l-c)=l by omega];exact hr) (by rw[show c+(l-c)=l by omega];exact h6)
   rw[show c+(l-c)=l by omega]at this
   obtain⟨u',h8,h9⟩:=this
   exact⟨_,(I.rk.obj u' r p _ hp h9).mono (zS M h8) rfl,(fun cs g z t nP=>by simp at nP),h7⟩
 ·refine I.FH hS ho hk hl hw fun e p h1 h2 hp dp qu=>?_
  obtain⟨br,q1,q2⟩:=hg e p h1 h2 hp dp qu
  rcases q2 with q2|⟨_,q3,q4⟩
  ·exact⟨br,q1,q2⟩
  ·exact absurd ⟨e,p,br,h1,h2,hp,dp,qu,q1,q3,q4⟩ FI
theorem Inv.skip(hS:Setup E call ops bf size T H v wt)(I:Inv E call ops bf size T H v wt B lo0 m w₀ a₀ S c M a w){i:Nat}{o:Oper}(ho:ops[i]? =some o)(hi:¬ S i)(hd:∀ j,dG ops i j→S j)(hw:wt i=false):
  Inv E call ops bf size T H v wt B lo0 m w₀ a₀ (fun j=>S j∨j=i) (upto c i o) M (a.put o.dst undef) w:=by
 obtain⟨p1,p2,p3,p4,p5⟩:=I.plain hS ho hi hd
 have cK:=hS.still ho (.inl hw)
 have hlt:=jK ho
 have hv:=(hS.text.skip i o (jJ ho) hw).1
 have hc:c≤upto c i o:=by
  by_cases he:dY o
  ·rw[tO he];have:=(I.vk hS ho hi hd he).1;omega
  ·rw[tP he];exact wy _
 have hK:∀ u r p x,M r=some p→rN ops H (fun j=>S j∨j=i) (upto c i o) u r x→∃ u',u'≤u∧rN ops H S c u' r x:=by
  rintro u r p x hm (⟨rfl,h1,h2⟩|⟨j,h1,h2,h3,h4,h5,h6,rfl,h7,h8⟩)
  ·by_cases he:dY o
   ·rw[tO he]at h1 h2⊢
    obtain⟨e1,_,_,e4⟩:=I.vk hS ho hi hd he
    rw[cK]at h1 h2⊢
    have:=I.trace hS (i-c) (by omega) (fun e p h1 h2 hp dp=>absurd dp (e4 e p h1 (by omega) hp)) r p x hm (by rw[show c+(i-c)=i by omega];exact h1) (by rw[show c+(i-c)=i by omega];exact h2)
    rwa [show c+(i-c)=i by omega]at this
   ·rw[tP he]at h1 h2⊢
    exact⟨_,wy _,.inl ⟨rfl,h1,h2⟩⟩
  ·have jL:j≠i:=fun h=>by subst h;rw[cK]at h6;omega
   exact⟨_,wy _,.inr ⟨j,by omega,h2,h3.resolve_right jL,h4,h5,h6,rfl,h7,h8⟩⟩
 have hG:∀ g l,(H (upto c i o)).grps.get g=some l→(H c).grps.get g=some l:=fun g l hl=>by
  by_cases he:dY o
  ·rw[tO he,cK]at hl
   obtain⟨e1,_,_,e4⟩:=I.vk hS ho hi hd he
   have:=I.grps hS (i-c) (by omega) (fun e p h1 h2 hp dp=>absurd dp (e4 e p h1 (by omega) hp))
   rw[show c+(i-c)=i by omega]at this
   rwa [this]at hl
  ·rwa [tP he]at hl
 refine⟨p1,p2,p3,p4,p5,I.out.skip i,I.rk.FJ hK hG,fun j r p h1 h2 h3 h4 h5=>?_,fun l ol gh hk h1 h2 h3=>?_,?_,fun t k hk lf u hu=>?_,fun t ht=>?_,?_⟩
 ·have jL:j≠i:=fun h=>by subst h;rw[cK]at h5;omega
  exact I.zN j r p (by omega) (h2.resolve_right jL) h3 h4 h5
 ·have hl:¬ S l:=fun h=>h2 (.inl h)
  refine I.FH hS gh hk hl h3 fun e p e1 e2 hp dp=>?_
  by_cases he:dY o
  ·rw[tO he]at h1
   obtain⟨_,_,_,e4⟩:=I.vk hS ho hi hd he
   exact absurd dp (e4 e p e1 (by omega) hp)
  ·rw[tP he]at h1;omega
 ·cases o.dst<;>simp[Act.put,I.zO]
 ·exact I.FF hS ho hi hd M.le_refl (by rw[hv];exact Fm _) t k hk lf u hu
 ·have:o.dst≠some t:=ht i o ho
  cases zT:o.dst with
  |none=>exact I.cz t ht
  |some d=>rw[vj,wa8 (fun h=>this (by rw[zT,h]))];exact I.cz t ht
 ·cases o.dst<;>exact I.defers
theorem lR.mono{T:Tr Value}{n:Nat}{u:Value}{o:Oper}{M':Match}{w':World}(h:lR E call lo0 T n u o M w)(cp:M.le M')(hM:∀ r p,r<n→M' r=some p→M r=some p)
  (hb:∀ r p,r<n→M r=some p→w'.heap[p.ax]? =w.heap[p.ax]?):lR E call lo0 T n u o M' w':=by
 rcases h with h|⟨x,y,r,h1,h2,h3,h4⟩|⟨ty,x,r,q,h1,h2,h3⟩
 ·exact .inl h
 ·refine .inr (.inl ⟨x,y,r,h1,h2,h3,fun hr p hp=>?_⟩)
  have jb:=hM r p hr hp
  obtain⟨ob,h5,h6⟩:=h4 hr p jb
  exact⟨ob,h5.mono (rP cp n) (hb r p hr jb),h6⟩
 ·refine .inr (.inr ⟨ty,x,r,q,h1,h2,fun hr p hp=>?_⟩)
  have jb:=hM r p hr hp
  obtain⟨i,cs,iI,C,e,fr,h4,h5,h6,h7,h8⟩:=h3 hr p jb
  exact⟨i,cs,iI,C,e,fr,h4,(hb r p hr jb).trans h5,h6,h7.mono (rP cp n),h8⟩
theorem Inv.LG(hS:Setup E call ops bf size T H v wt)(I:Inv E call ops bf size T H v wt B lo0 m w₀ a₀ S c M a w){i:Nat}(hi:i≤ops.size):∀ r p,m r=some p→r<(H i).next:=fun r p hr=>by
 rcases I.out.dom r p (I.out.le r p hr)with⟨_,h⟩|⟨h,_⟩
 ·exact wq h (hS.mono (wJ i) hi)
 ·rw[hr]at h;cases h
theorem Inv.join_le(hS:Setup E call ops bf size T H v wt)(I:Inv E call ops bf size T H v wt B lo0 m w₀ a₀ S c M a w){i:Nat}(hi:¬ S i)(hlt:i<ops.size)(m':Match):M.le (join M m' (H i).next (H (i+1)).next):=fun r p hr=>by
 have:=I.vh hS hi hlt hr
 unfold join
 rw[wI this];exact hr
theorem LH(I:Inv E call ops bf size T H v wt B lo0 m w₀ a₀ S c M a w){i:Nat}{o:Oper}(ho:ops[i]? =some o)(v':Value)(t:Tmp)(ht:∀ (j:Nat) (o:Oper),ops[j]? =some o→o.dst≠some t):(a.put o.dst v').tmps[t]? =a₀.tmps[t]? :=by
 have:o.dst≠some t:=ht i o ho
 cases zT:o.dst with
 |none=>exact I.cz t ht
 |some d=>rw[vj,wa8 (fun h=>this (by rw[zT,h]))];exact I.cz t ht
theorem Inv.quiet(hS:Setup E call ops bf size T H v wt)(I:Inv E call ops bf size T H v wt B lo0 m w₀ a₀ S c M a w){i:Nat}{o:Oper}(ho:ops[i]? =some o)(hi:¬ S i)(hd:∀ j,dG ops i j→S j)(a9:¬ dY o)
  {Hx oE:Heap} (aj:(H i).next≤Hx.lo) (iq:lo0≤(H 0).lo) {m':Match} {w':World} {v':Value} (hg:Good B lo0 (below M (H i).next) Hx w m' oE w') (hv:VRel m' (v i) v')
  (Tp:∀ r p,m' r=some p→below M (H i).next r=some p∨((H i).next≤r∧r<(H (i+1)).next)) (LI:(H (i+1)).next≤(H i).next+1) (LJ:kindOf o.op= .alloc∨(H (i+1)).next=(H i).next)
  (nP:∀ r p x,m' r=some p→(H i).next≤r→r<(H (i+1)).next→(H (i+1)).objs.get r=some x→ve x∧iZ (decide (lo0≤r)) m' p w' x):
  Inv E call ops bf size T H v wt B lo0 m w₀ a₀ (fun j=>S j∨j=i) (upto c i o) (join M m' (H i).next (H (i+1)).next) (a.put o.dst v') w':=by
 obtain⟨p1,p2,p3,p4,p5⟩:=I.plain hS ho hi hd
 have hlt:=jK ho
 have xT:(H i).next≤(H (i+1)).next:=(hS.xS ho).ag
 have nQ:=I.join_le hS hi hlt m'
 have aG:=fun r p=>I.vh (r:=r) (p:=p) hS hi hlt
 have gU:∀ b,b<w.heap.size→w'.heap[b]? =w.heap[b]? :=fun b hb=>hg.frame b hb fun r p hr hl=>by
  have:=(dt.1 hr).1
  omega
 have FK:∀ r p,m' r=some p→(H i).next≤r→w.heap.size≤p.ax:=fun r p hr cn=>by
  rcases hg.ax r p hr (by unfold below;rw[wI (by omega)])with h|⟨r₀,p₀,h1,h2,_⟩
  ·exact h
  ·have:=(dt.1 h1).1;omega
 have cJ:∀ r p,join M m' (H i).next (H (i+1)).next r=some p→M r=some p∨(M r=none∧(H i).next≤r∧r<(H (i+1)).next∧m' r=some p):=fun r p hr=>by
  unfold join at hr
  split at hr
  ·rename_i cn
   refine .inr ⟨?_,cn.1,cn.2,hr⟩
   cases hm:M r with
   |none=>rfl
   |some q=>exact absurd cn (aG r q hm)
  ·exact .inl hr
 have vl:m'.le (below (join M m' (H i).next (H (i+1)).next) (H (i+1)).next):=fun r p hr=>by
  rcases Tp r p hr with h|h
  ·obtain⟨h1,h2⟩:=dt.1 h
   exact dt.2 ⟨by omega,nQ r p h2⟩
  ·refine dt.2 ⟨h.2,?_⟩
   unfold join
   rw[wF h];exact hr
 have LK:(H i).next<(H (i+1)).next→c≤i:=fun h=>by
  apply wcF
  intro Tq
  rcases LJ with h1|h1
  ·exact hi (I.CF i o ho h1 Tq)
  ·omega
 rw[tP a9]at p3 p4 p5⊢
 refine⟨p1,p2,p3,p4,p5,I.out.step (I.LG hS (waz hlt)) hg ?_,?_,?_,fun l ol gh hk h1 h2 h3=>?_,?_,fun t k hk lf u hu=>?_,LH I ho v',?_⟩
 ·have:=hS.mono (wJ i) (waz hlt)
  have:=hS.lo
  omega
 ·refine I.rk.extend nQ hg.size gU (fun r p hr hm=>?_) (fun r r' p p' hr hm ct eE=>?_) (fun u r p x hr hx=>?_)
  ·rcases cJ r p hr with h|⟨_,h1,h2,h3⟩
   ·rw[hm]at h;cases h
   ·have:=hS.lo
    have:=hS.mono (wJ i) (waz hlt)
    exact⟨by omega,FK r p h3 h1,(hg.rel.dom r p h3).2.1⟩
  ·rcases cJ r p hr with h|⟨_,h1,h2,h3⟩
   ·rw[hm]at h;cases h
   ·rcases cJ r' p' ct with h|⟨_,eg,ez,vn⟩
    ·rw[eE]at h;cases h
    ·omega
  ·rcases hx with⟨rfl,h1,h2⟩|⟨j,h1,h2,h3,h4,h5,h6,rfl,h7,h8⟩
   ·rcases cJ r p hr with h|⟨_,h3,h4,_⟩
    ·exact .inl ⟨h,.inl ⟨rfl,h1,h2⟩⟩
    ·have:=LK (by omega)
     have:=hS.mono this (waz hlt)
     omega
   ·by_cases jL:j=i
    ·subst jL
     rcases cJ r p hr with h|⟨h9,aY,aV,bB⟩
     ·exact absurd ⟨h5,h6⟩ (aG r p h)
     ·obtain⟨bP,ki⟩:=nP r p x bB aY aV h7
      exact .inr ⟨h9,bP,ki.mono vl rfl⟩
    ·have tR:=h3.resolve_right jL
     rcases cJ r p hr with h|⟨_,aY,aV,_⟩
     ·exact .inl ⟨h,.inr ⟨j,h1,h2,tR,h4,h5,h6,rfl,h7,h8⟩⟩
     ·by_cases Ts:j<i
      ·have:=hS.mono (i:=j+1) (j:=i) Ts (waz hlt);omega
      ·have:=hS.mono (i:=i+1) (j:=j) (by omega) (waz h2);omega
 ·intro j r p h1 h2 h3 h4 h5 hr r' p' Tt ct hb
  rcases cJ r p hr with h|⟨_,h6,h7,h8⟩
  ·have jL:j≠i:=fun h'=>by subst h';exact aG r p h ⟨h4,h5⟩
   rcases cJ r' p' ct with h'|⟨_,tQ,Tu,LL⟩
   ·exact I.zN j r p h1 (h2.resolve_right jL) h3 h4 h5 h r' p' Tt h' hb
   ·have:=(I.rk.dom r p h).1
    have:=FK r' p' LL tQ
    omega
  ·rcases cJ r' p' ct with h'|⟨_,tQ,Tu,LL⟩
   ·have:=(I.rk.dom r' p' h').1
    have:=FK r p h8 h6
    omega
   ·omega
 ·refine(I.Lz l ol gh hk h1 (fun h=>h2 (.inl h)) h3).mono nQ (fun r p hr hp=>?_) (fun r p _ hp=>gU _ (I.rk.dom r p hp).1)
  rcases cJ r p hp with h|⟨_,h4,h5,_⟩
  ·exact h
  ·have:=LK (by omega)
   have:=hS.mono (i:=l) (j:=i) (by omega) (waz hlt)
   omega
 ·cases o.dst<;>simp[Act.put,I.zO]
 ·exact I.FF hS ho hi hd nQ (hv.mono vl) t k hk lf u hu
 ·cases o.dst<;>exact I.defers
theorem jI.union{m₁ m':Match}{K' K₁:Nat→Nat→AObj→Prop}{G:Nat→List Nat→Prop}{w:World}(h:jI B lo0 m' K₁ G w)(cp:m'.le m₁)(Tv:∀ r p,m₁ r=some p→p.ax<w.heap.size∧(lo0≤r→B≤p.ax)∧(r<lo0→p.ax<B))
  (hK:∀ u r p x,m₁ r=some p→K' u r x→(m' r=some p∧K₁ u r x)∨(ve x∧iZ (decide (lo0≤r)) (below m₁ u) p w x∧∀ r' p',r'≠r→m₁ r'=some p'→p'.ax≠p.ax)):jI B lo0 m₁ K' G w where
 base:=h.base
 fJ:=h.fJ
 dom:=Tv
 obj u r p o hr ho:=by
  rcases hK u r p o hr ho with⟨h1,h2⟩|⟨_,h3,_⟩
  ·exact(h.obj u r p o h1 h2).mono (rP cp u) rfl
  ·exact h3
 sep u u' r r' p p' o o' a9 hl hr ct ho bG hb:=by
  rcases hK u r p o hr ho with⟨h1,h2⟩|⟨_,_,h3⟩
  ·rcases hK u' r' p' o' ct bG with⟨eg,ez⟩|⟨_,_,h3⟩
   ·exact h.sep u u' r r' p p' o o' a9 hl h1 eg h2 ez hb
   ·exact absurd hb (h3 r p a9 hr)
  ·exact absurd hb.symm (h3 r' p' (wbl a9) ct)
 dF u u' r r' p p' c c' g z z' hr ct ho bG:=by
  rcases hK u r p _ hr ho with⟨h1,h2⟩|⟨h3,_⟩
  ·rcases hK u' r' p' _ ct bG with⟨eg,ez⟩|⟨h3,_⟩
   ·exact h.dF u u' r r' p p' c c' g z z' h1 eg h2 ez
   ·exact absurd rfl (h3 _ _ _)
  ·exact absurd rfl (h3 _ _ _)
 aS u r p c g z hr ho l hl:=by
  rcases hK u r p _ hr ho with⟨h1,h2⟩|⟨h3,_⟩
  ·exact h.aS u r p c g z h1 h2 l hl
  ·exact absurd rfl (h3 _ _ _)
 ends u u' r r' p p' c c' g z z' t hr ct ho bG hb:=by
  rcases hK u r p _ hr ho with⟨h1,h2⟩|⟨h3,_⟩
  ·rcases hK u' r' p' _ ct bG with⟨eg,ez⟩|⟨h3,_⟩
   ·exact h.ends u u' r r' p p' c c' g z z' t h1 eg h2 ez hb
   ·exact absurd rfl (h3 _ _ _)
  ·exact absurd rfl (h3 _ _ _)
 bH u r p c g z t hr ho:=by
  rcases hK u r p _ hr ho with⟨h1,h2⟩|⟨h3,_⟩
  ·exact h.bH u r p c g z t h1 h2
  ·exact absurd rfl (h3 _ _ _)
theorem Inv.effect(hS:Setup E call ops bf size T H v wt)(I:Inv E call ops bf size T H v wt B lo0 m w₀ a₀ S c M a w){i:Nat}{o:Oper}(ho:ops[i]? =some o)(hi:¬ S i)(hd:∀ j,dG ops i j→S j)(he:dY o)
  {Hx oE:Heap} (aj:(H 0).lo≤Hx.lo) (cn:Hx.next=(H i).next) (hx:H (i+1)={objs:=oE.objs,grps:=oE.grps,next:=oE.next,lo:=(H i).lo}) {m':Match} {w':World} {v':Value} (hg:Good B lo0 (below M (H i).next) Hx w m' oE w')
  (hv:VRel m' (v i) v') (Tw:∀ (l:Nat) (ol:Oper),ops[l]? =some ol→kindOf ol.op= .load→l<i→¬ S l→wt l=true→lR E call lo0 (T l) (H l).next (v l) ol M w→
   lR E call lo0 (T l) (H l).next (v l) ol (join M m' (H i).next (H (i+1)).next) w'):
  Inv E call ops bf size T H v wt B lo0 m w₀ a₀ (fun j=>S j∨j=i) (upto c i o) (join M m' (H i).next (H (i+1)).next) (a.put o.dst v') w':=by
 obtain⟨p1,p2,p3,p4,p5⟩:=I.plain hS ho hi hd
 obtain⟨e1,e2,e3,e4⟩:=I.vk hS ho hi hd he
 have hlt:=jK ho
 have xT:(H i).next≤(H (i+1)).next:=(hS.xS ho).ag
 have nQ:=I.join_le hS hi hlt m'
 have aG:=fun r p=>I.vh (r:=r) (p:=p) hS hi hlt
 have jc:oE.next=(H (i+1)).next:=by rw[hx]
 have lU:∀ r p,m' r=some p→r<(H (i+1)).next:=fun r p hr=>by rw[←jc];exact(hg.rel.dom r p hr).1
 have FM:∀ r p,join M m' (H i).next (H (i+1)).next r=some p→r<(H (i+1)).next→m' r=some p:=fun r p hr ma=>by
  unfold join at hr
  split at hr
  ·exact hr
  ·rename_i hn
   exact hg.le r p (dt.2 ⟨by omega,hr⟩)
 have tS:∀ r p,join M m' (H i).next (H (i+1)).next r=some p→¬ ((H i).next≤r∧r<(H (i+1)).next)→M r=some p:=fun r p hr hn=>by
  unfold join at hr
  rw[wI hn]at hr;exact hr
 have vl:m'.le (join M m' (H i).next (H (i+1)).next):=fun r p hr=>by
  by_cases hn:(H i).next≤r
  ·unfold join;rw[wF ⟨hn,lU r p hr⟩];exact hr
  ·rcases hg.new r p hr with h|⟨_,h⟩
   ·exact nQ r p (dt.1 h).2
   ·omega
 have Tz:m'.le (below (join M m' (H i).next (H (i+1)).next) (H (i+1)).next):=fun r p hr=>dt.2 ⟨lU r p hr,vl r p hr⟩
 have LM:∀ j r p,i+1≤j→S j→FD ops j→(H j).next≤r→r<(H (j+1)).next→M r=some p→∀ r' p',r'≠r→join M m' (H i).next (H (i+1)).next r'=some p'→p'.ax≠p.ax:=by
  intro j r p h1 h2 h3 h4 h5 h6 r' p' a9 ct hb
  have jL:=hS.mono (i:=i+1) (j:=j) h1 (waz (I.lt j h2))
  by_cases hn:(H i).next≤r'∧r'<(H (i+1)).next
  ·have TA:=FM r' p' ct hn.2
   rcases hg.ax r' p' TA (by unfold below;rw[wI (by omega)])with h|⟨r₀,p₀,h7,h8,h9⟩
   ·have:=(I.rk.dom r p h6).1;omega
   ·obtain⟨aY,aV⟩:=dt.1 h7
    exact I.zN j r p (by omega) h2 h3 h4 h5 h6 r₀ p₀ (by omega) aV (h9.trans hb)
  ·exact I.zN j r p (by omega) h2 h3 h4 h5 h6 r' p' a9 (tS r' p' ct hn) hb
 rw[tO he]at p3 p4 p5⊢
 refine⟨p1,p2,p3,p4,p5,I.out.step (I.LG hS (waz hlt)) hg aj,?_,?_,fun l ol gh hk h1 h2 h3=>?_,?_,fun t k hk lf u hu=>?_,LH I ho v',?_⟩
 ·have hR:=jI.LN hg.rel
  refine(hR.union (K':=rN ops H (fun j=>S j∨j=i) (i+1)) vl (fun r p hr=>?_) (fun u r p x hr vq=>?_)).FJ (fun u r p x _ h=>⟨u,wy _,h⟩) (fun g l hl=>by rw[hx]at hl;exact hl)
  ·by_cases hn:(H i).next≤r∧r<(H (i+1)).next
   ·exact(hg.rel.dom r p (FM r p hr hn.2)).2
   ·obtain⟨h1,h2⟩:=I.rk.dom r p (tS r p hr hn)
    exact⟨wq h1 hg.size,h2⟩
  ·rcases vq with⟨rfl,h1,h2⟩|⟨j,h1,h2,h3,h4,h5,h6,rfl,h7,h8⟩
   ·exact .inl ⟨FM r p hr h1,jc.symm,by rw[hx]at h2;exact h2⟩
   ·have jL:=hS.mono (i:=i+1) (j:=j) h1 (waz h2)
    have tR:S j:=h3.resolve_right (by omega)
    have CG:=tS r p hr (by omega)
    refine .inr ⟨h8,?_,fun r' p' a9 ct=>LM j r p h1 tR h4 h5 h6 CG r' p' a9 ct⟩
    refine(I.rk.obj _ r p x CG (.inr ⟨j,by omega,h2,tR,h4,h5,h6,rfl,h7,h8⟩)).mono (rP nQ _) (hg.frame _ (I.rk.dom r p CG).1 fun r₁ p₁ FN _=>?_)
    obtain⟨h9,aY⟩:=dt.1 FN
    exact I.zN j r p (by omega) tR h4 h5 h6 CG r₁ p₁ (by omega) aY
 ·intro j r p h1 h2 h3 h4 h5 hr r' p' a9 ct
  have tR:S j:=h2.resolve_right (by omega)
  have jL:=hS.mono (i:=i+1) (j:=j) h1 (waz (I.lt j tR))
  exact LM j r p h1 tR h3 h4 h5 (tS r p hr (by omega)) r' p' a9 ct
 ·have hl:¬ S l:=fun h=>h2 (.inl h)
  have iJ:l<i:=by
   have:l≠i:=fun h=>h2 (.inr h)
   omega
  exact Tw l ol gh hk iJ hl h3 (I.FH hS gh hk hl h3 fun e p h4 h5 hp dp=>absurd dp (e4 e p h4 (by omega) hp))
 ·cases o.dst<;>simp[Act.put,I.zO]
 ·exact I.FF hS ho hi hd nQ (hv.mono Tz) t k hk lf u hu
 ·cases o.dst<;>exact I.defers
end
variable[Maps]{B lo0:Nat}{E:Env}
theorem TB(hE:EnvOk E){call:dc}{m:Match}{H H':Heap}{w:World}{T:Tr Value}{a:Act}{o:Oper}{t:TypeId}{x y:Operand}{v:Value}(hR:Rel B lo0 m H w)(ht:fy m T a.tmps)(ho:o.op= .store t x y)(h:exOp E call T o H=some (v,H')):
  ∃(r k n:Nat) (p:dV) (C:Array Value) (e:TypeId) (fr:Nat×Nat) (new cG:List Value),footOf E T o.op=some (r,k,n)∧H.lo≤r∧m r=some p∧w.heap[p.ax]? =some (.cells C e fr)∧new.length=n∧LRel m new cG∧
   (∃cells g,H.objs.get r=some (.row cells g true)∧k+n≤cells.length∧p.base+cells.length≤C.size)∧
   (execOp a.eval o).run E.P w= .ok .skip (dR w p.ax (.cells (lh C (p.base+k) cG) e fr)):=by
 unfold exOp at h
 simp only[ho,we,wi,wk]at h
 obtain⟨u,h1,u2,h2,H2,h3,rfl,rfl⟩:=h
 have hx:=cO ht h1
 have hy:=cO ht h2
 unfold tH at h3
 split at h3
 ·rename_i r k
  simp only[we]at h3
  obtain⟨n,h4,h5⟩:=h3
  obtain⟨h6,h7⟩:=cr h5
  have h6:(cj u2).length=n:=by simpa using h6
  obtain⟨cells,bH,g1,g2,g3,g4,_⟩:=Heap.FO h7
  generalize FP:a.eval x=x' at hx
  generalize TC:a.eval y=y' at hy
  cases hx with
  |ptr hm=>
   rename_i p
   have hn:=xV hy
   have aj:lo0≤r:=wK hR.lo g1
   obtain⟨⟨C,e,fr,c1,c2,c3,c4,c5⟩,c6,c7⟩:=hR.obj r p _ hm g3
   have cP:(cj y').all isCell=true:=by
    rw[waC]at g2⊢
    intro v' dv
    obtain⟨i,hi⟩:=wbx.1 dv
    have hlt:i<(cj u2).length:=by rw[hn.1];exact(wD.1 hi).1
    rw[E0 (hn.2 i _ v' (wj hlt) hi)]
    exact g2 _ (wam hlt)
   have bE:=Ci (P:=E.P) (o:=p.base+k) (cj y') 0 w C c1 (by rw[←hn.1];omega) (fun j _ h=>c3 (wz aj) j (by rw[←hn.1]at h;omega)) cP
   refine⟨r,k,n,p,C,e,fr,cj u2,cj y',?_,g1,hm,c1,h6,hn,⟨cells,bH,g3,by omega,c4⟩,?_⟩
   ·simp only[ho,footOf,h1,h4,wo]
   ·have bh:y'.cells.size=n:=by rw[←waF,jD,←hn.1];exact h6
    simp only[execOp,ho,FP,TC,Instr.storeAt,Instr.sureAddr,storeVar,wB,wC,wu,hE.size h4,bh,ne_eq,wcC,waa,jD,bE]
    rfl
 ·simp at h3
theorem TD(hE:EnvOk E){ty:TypeId}{u:Value}{m:Match}{p:dV}{q:Nat}{w:World}(h:qs E ty u m p q w):∃ v',(Instr.loadAt ty (.pointer (some ⟨p.ax,p.base+q,none⟩))).run E.P w= .ok v' w∧VRel m u v':=by
 obtain⟨i,cs,iI,C,e,fr,h1,h2,h3,h4,h5,h6,h7⟩:=h
 have mN:=hE.isAgg h1
 cases ha:i.agg with
 |true=>
  rw[ha]at h3 mN
  simp only[wai]at h3
  have kS:∀ (j:Nat) (v:Value),iI[j]? =some v→w.cell? (Addr.add ⟨p.ax,p.base+q,none⟩ j)=some v:=fun j v hv=>by
   rw[add_plain,cell?_at h2,h5 j (by rw[h4.1];exact(wD.1 hv).1)]
   exact hv
  have bE:=run_loadCells_list (P:=E.P) w ⟨p.ax,p.base+q,none⟩ _ kS
  rw[←h4.1,h3]at bE
  refine⟨.agg iI.toArray,?_,by rw[h6 ha];exact .zU h4⟩
  simp only[Instr.loadAt,Instr.sureAddr,loadVar,wB,wC,wu,mN,hE.oF h1,bE,wah]
 |false=>
  rw[ha]at h3 mN
  simp only[wS]at h3
  obtain⟨v',d1,d2⟩:=h4.get (h7 ha)
  have h8:=h5 0 (by omega)
  rw[d1]at h8
  simp only[waX]at h8
  exact⟨v',by simp[Instr.loadAt,Instr.sureAddr,loadVar,mN,cell?_at h2,h8],d2⟩
theorem FQ{ty:TypeId}{u:Value}{m:Match}{p:dV}{r q:Nat}{w:World}{H:Heap}{cells:List Value}{C:Array Value}{e:TypeId}{fr:Nat×Nat}{g:Option (Nat×Nat)}{tp:Bool}(h:loadV E H ty (ptr r q)=some u)(hr:H.objs.get r=some (.row cells g tp))
  (hw:w.heap[p.ax]? =some (.cells C e fr)) (hc:th m cells C p.base):qs E ty u m p q w:=by
 simp only[loadV,ptr,hr,we]at h
 obtain⟨i,h1,h2⟩:=h
 cases ha:i.agg with
 |true=>
  rw[ha]at h2
  simp only[wai,we,wi]at h2
  obtain⟨l,h3,rfl⟩:=h2
  obtain⟨h4,rfl⟩:=xG h3
  have cg:((cells.drop q).take i.size).length=i.size:=by simp;omega
  have iK:∀ j v,((cells.drop q).take i.size)[j]? =some v→∃ v',C[p.base+q+j]? =some v'∧VRel m v v':=fun j v hv=>by
   rw[wab]at hv
   split at hv
   ·rw[wae]at hv
    obtain⟨v',d1,d2⟩:=hc (q+j) v hv
    exact⟨v',by rw[show p.base+q+j=p.base+(q+j) by omega];exact d1,d2⟩
   ·cases hv
  have bh:p.base+q+i.size≤C.size∨i.size=0:=by
   by_cases h0:i.size=0
   ·exact .inr h0
   ·left
    have hlt:i.size-1<((cells.drop q).take i.size).length:=by omega
    obtain⟨v',d1,_⟩:=iK (i.size-1) _ (wj hlt)
    have:=(w0.1 d1).1
    omega
  refine⟨i,(cells.drop q).take i.size,(C.toList.drop (p.base+q)).take i.size,C,e,fr,h1,hw,by rw[ha,cg];rfl,⟨by rw[cg];simp;omega,fun j v v' hv dv=>?_⟩,fun j hj=>?_,fun _=>rfl,fun h=>by rw[ha]at h;cases h⟩
  ·obtain⟨rz,d1,d2⟩:=iK j v hv
   rw[wab]at dv
   split at dv
   ·rw[wae,wao,d1]at dv
    cases dv;exact d2
   ·cases dv
  ·rw[wab,wF (by rw[cg]at hj;exact hj),wae,wao]
 |false=>
  rw[ha]at h2
  simp only[wS]at h2
  obtain⟨v',d1,d2⟩:=hc q u h2
  refine⟨i,[u],[v'],C,e,fr,h1,hw,by rw[ha];rfl,.one d2,fun j hj=>?_,(fun h=>by rw[ha]at h;cases h),(fun _=>rfl)⟩
  have:j=0:=by simpa using hj
  subst this
  simpa using d1
theorem LO{T:Tr Value}{H:Heap}{r o n:Nat}:∀ {l:List Op},apartFrom E T H r o n l=true→∀ p∈l,∀r' o' n',footOf E T p=some (r',o',n')→(r=r'∧(o+n≤o'∨o'+n'≤o))∨(r≠r'∧(H.objs.get r').isSome=true)
 |q::l,h,p,hp,r',o',n',hf=>by
  simp only[apartFrom,wA]at h
  rcases wad.1 hp with rfl|hp
  ·have h1:=h.1
   rw[hf]at h1
   simp only at h1
   cases hb:Nat.beq r r' with
   |true=>
    rw[hb]at h1
    simp only[wai,wbR,wbi]at h1
    exact .inl ⟨by simpa using hb,h1⟩
   |false=>
    rw[hb]at h1
    exact .inr ⟨fun h=>by subst h;simp at hb,h1⟩
  ·exact LO h.2 p hp r' o' n' hf
variable{call:dc}{ops:Array Oper}{bf:List Info}{size:Nat}{T:Nat→Tr Value}{H:Nat→Heap}{v:Nat→Value}{wt:Nat→Bool}
variable{m:Match}{w₀:World}{a₀:Act}{S:Nat→Prop}{c:Nat}{M:Match}{a:Act}{w:World}
theorem TE{T₁:Tr Value}{n₁:Nat}{u:Value}{o:Oper}{ty:TypeId}{x:Operand}{M':Match}{w':World}{k:Nat}{p:dV}{C:Array Value}{e:TypeId}{fr:Nat×Nat}{cG:List Value}(h:lR E call lo0 T₁ n₁ u o M w)(ho:o.op= .load ty x)(qv:∀ k,k<n₁→Maps.low k)
  (cp:M.le M') (hM:∀ r p,r<n₁→M' r=some p→M r=some p) (hb:w.heap[p.ax]? =some (.cells C e fr)) (gU:∀ b,b≠p.ax→w'.heap[b]? =w.heap[b]?) (hw:w'.heap[p.ax]? =some (.cells (lh C (p.base+k) cG) e fr))
  (bh:p.base+k+cG.length≤C.size)
  (di:∀ r' o' n' p',footOf E T₁ o.op=some (r',o',n')→M r'=some p'→r'<n₁→p'.ax=p.ax→p'=p∧(k+cG.length≤o'∨o'+n'≤k)):lR E call lo0 T₁ n₁ u o M' w':=by
 have key:∀ r q i,r<n₁→∀ p',M r=some p'→ev T₁ x=some (ptr r q)→E.ty.get ty=some i→qs E ty u (below M n₁) p' q w→qs E ty u (below M' n₁) p' q w':=by
  rintro r q i hr p' hp hx hi ⟨i',cs,iI,C',e',bq,h1,h2,h3,h4,h5,h6⟩
  rw[hi]at h1;cases h1
  by_cases hU:p'.ax=p.ax
  ·obtain⟨rfl,h7⟩:=di r q (bif i.agg then i.size else 1) p' (by simp only[ho,footOf,hx,hi,wo,ptr]) hp hr hU
   rw[hb]at h2;cases h2
   refine⟨i,cs,iI,_,e,fr,hi,hw,h3,h4.mono (rP cp n₁),fun j hj=>?_,h6⟩
   rw[uS bh,wI (by omega)]
   exact h5 j hj
  ·exact⟨i,cs,iI,C',e',bq,hi,(gU _ hU).trans h2,h3,h4.mono (rP cp n₁),h5,h6⟩
 rcases h with h|⟨x',y,r,h1,h2,h3,h4⟩|⟨FR,x',r,q,h1,h2,h3⟩
 ·exact .inl h
 ·rw[ho,loadsFrom,wi]at h1
  subst h1
  have hex:∀ Hx:Heap,exOp E call T₁ o Hx=(loadV E Hx ty y).bind fun v=>some (v,Hx):=fun Hx=>by
   unfold exOp
   simp only[ho,h2,wo]
  cases y with
  |pointer a=>
   cases a with
   |none=>simp[rowOfV]at h3
   |some ad=>
    obtain⟨b,q,el⟩:=ad
    simp only[rowOfV,wi]at h3
    subst h3
    cases el with
    |some z=>
     refine .inr (.inl ⟨x,_,b,by rw[ho];rfl,h2,rfl,fun hr p' hp=>?_⟩)
     obtain⟨ob,_,_,h7⟩:=h4 hr p' (hM b p' hr hp)
     have hx:(({objs:=Tr.nil.set b ob,grps:=Tr.nil,next:=0,lo:=0}:Heap)).objs.get b=some ob:=by
      show((Tr.nil:Tr AObj).set b ob).get b=some ob
      exact Tr.mO (qv _ hr)
     have:=h7 _ hx
     rw[hex]at this
     simp[loadV]at this
    |none=>
     refine .inr (.inr ⟨ty,x,b,q,ho,h2,fun hr p' hp=>?_⟩)
     have jb:=hM b p' hr hp
     obtain⟨ob,h5,h6,h7⟩:=h4 hr p' jb
     have hx:(({objs:=Tr.nil.set b ob,grps:=Tr.nil,next:=0,lo:=0}:Heap)).objs.get b=some ob:=by
      show((Tr.nil:Tr AObj).set b ob).get b=some ob
      exact Tr.mO (qv _ hr)
     have h8:=h7 _ hx
     rw[hex,we]at h8
     obtain⟨u',h9,aY⟩:=h8
     simp only[wi,wk]at aY
     rw[aY.1]at h9
     have aG:∃ cells g tp i,ob= .row cells g tp∧E.ty.get ty=some i:=by
      have aV:=h9
      simp only[loadV,hx]at aV
      split at aV
      ·rename_i cells g tp mc
       simp only[wi]at mc
       simp only[we]at aV
       obtain⟨i,bB,_⟩:=aV
       exact⟨cells,g,tp,i,mc,bB⟩
      ·simp at aV
     obtain⟨cells,g,tp,i,rfl,hi⟩:=aG
     obtain⟨⟨C',e',bq,c1,c2,c3,c4,c5⟩,_⟩:=h5
     exact key b q i hr p' jb h2 hi (FQ h9 hx c1 c5)
  |slice _ _ _=>
   refine .inr (.inl ⟨x,_,r,by rw[ho];rfl,h2,h3,fun hr p' hp=>?_⟩)
   obtain⟨ob,_,_,h7⟩:=h4 hr p' (hM r p' hr hp)
   have hx:(({objs:=Tr.nil.set r ob,grps:=Tr.nil,next:=0,lo:=0}:Heap)).objs.get r=some ob:=by
    show((Tr.nil:Tr AObj).set r ob).get r=some ob
    exact Tr.mO (qv _ hr)
   have:=h7 _ hx
   rw[hex]at this
   simp[loadV]at this
  |map _=>
   refine .inr (.inl ⟨x,_,r,by rw[ho];rfl,h2,h3,fun hr p' hp=>?_⟩)
   obtain⟨ob,_,_,h7⟩:=h4 hr p' (hM r p' hr hp)
   have hx:(({objs:=Tr.nil.set r ob,grps:=Tr.nil,next:=0,lo:=0}:Heap)).objs.get r=some ob:=by
    show((Tr.nil:Tr AObj).set r ob).get r=some ob
    exact Tr.mO (qv _ hr)
   have:=h7 _ hx
   rw[hex]at this
   simp[loadV]at this
  |_=>simp[rowOfV]at h3
 ·rw[ho]at h1
  cases h1
  refine .inr (.inr ⟨ty,x,r,q,ho,h2,fun hr p' hp=>?_⟩)
  have jb:=hM r p' hr hp
  have h4:=h3 hr p' jb
  have hi:=h4
  obtain⟨i,_,_,_,_,_,hi,_⟩:=hi
  exact key r q i hr p' jb h2 hi h4
theorem TF{t:TypeId}{y:Value}{lo hi mx:Option Value}{u:Value}{Hx:Heap}{r:Nat}{ob:AObj}(hx:Hx.objs.get r=some ob)(h:sliceV E Hx t y lo hi mx=some u)(hr:rowOfV y=some r):
  (∃cells bH dF,ob= .row cells bH dF∧∀ (Hy:Heap) cells',Hy.objs.get r=some (.row cells' bH dF)→sliceV E Hy t y lo hi mx=some u)∧((∃o l c,y= .slice (some ⟨r,o,none⟩) l c)∨∃ o,y= .pointer (some ⟨r,o,none⟩)):=by
 unfold sliceV at h
 simp only[we]at h
 obtain⟨i,h6,h5⟩:=h
 split at h5
 ·simp[rowOfV]at hr
 ·rename_i r' o' len cap hd
  simp only[rowOfV,wi]at hr
  subst hr
  obtain⟨hb,h5⟩:=cM h5
  simp only[we]at h5
  obtain⟨b,h7,z,h8,h5⟩:=h5
  refine⟨?_,.inl ⟨_,_,_,rfl⟩⟩
  split at h5
  ·rename_i aG
   rw[hx]at aG
   simp only[wi]at aG
   refine⟨_,_,_,aG,fun Hy cells' hy=>?_⟩
   simp only[sliceV,h6,wo,hd,hb,wS,h7,h8,hy,h5]
  ·rename_i aG
   rw[hx]at aG
   simp only[wi]at aG
   refine⟨_,_,_,aG,fun Hy cells' hy=>?_⟩
   simp only[sliceV,h6,wo,hd,hb,wS,h7,h8,hy,h5]
  ·simp at h5
 ·simp[rowOfV]at hr
 ·rename_i r' o' hd
  simp only[rowOfV,wi]at hr
  subst hr
  simp only[we]at h5
  obtain⟨b,h7,z,h8,h5⟩:=h5
  refine⟨?_,.inr ⟨_,rfl⟩⟩
  split at h5
  ·rename_i aG
   rw[hx]at aG
   simp only[wi]at aG
   refine⟨_,_,_,aG,fun Hy cells' hy=>?_⟩
   simp only[sliceV,h6,wo,hd,h7,h8,hy,h5]
  ·simp at h5
 ·simp at h5
theorem TG{T₁:Tr Value}{n₁:Nat}{u:Value}{o:Oper}{ty:TypeId}{x:Operand}{lo hi mx:Option Operand}{M':Match}{w':World}{k:Nat}{p:dV}{C:Array Value}{e:TypeId}{fr:Nat×Nat}{cG:List Value}(h:lR E call lo0 T₁ n₁ u o M w)(ho:o.op= .slice ty x lo hi mx)(qv:∀ k,k<n₁→Maps.low k)
  (cp:M.le M') (hM:∀ r p,r<n₁→M' r=some p→M r=some p) (hb:w.heap[p.ax]? =some (.cells C e fr)) (gU:∀ b,b≠p.ax→w'.heap[b]? =w.heap[b]?) (hw:w'.heap[p.ax]? =some (.cells (lh C (p.base+k) cG) e fr))
  (bh:p.base+k+cG.length≤C.size) (di:∀ r' o' n' p',footOf E T₁ o.op=some (r',o',n')→M r'=some p'→r'<n₁→p'.ax=p.ax→p'=p):lR E call lo0 T₁ n₁ u o M' w':=by
 rcases h with h|⟨x',y,r,h1,h2,h3,h4⟩|⟨FR,x',r,q,h1,h2,h3⟩
 ·exact .inl h
 ·rw[ho,loadsFrom,wi]at h1
  subst h1
  refine .inr (.inl ⟨x,y,r,by rw[ho];rfl,h2,h3,fun hr p' hp=>?_⟩)
  have jb:=hM r p' hr hp
  obtain⟨ob,h5,h6,h7⟩:=h4 hr p' jb
  have hx:(({objs:=Tr.nil.set r ob,grps:=Tr.nil,next:=0,lo:=0}:Heap)).objs.get r=some ob:=by
   show((Tr.nil:Tr AObj).set r ob).get r=some ob
   exact Tr.mO (qv _ hr)
  have h8:=h7 _ hx
  unfold exOp at h8
  simp only[ho,h2,wo,we,wi,wk]at h8
  obtain⟨u3,g3,u4,g4,u5,g5,u6,g6,rfl,_⟩:=h8
  obtain⟨⟨cells,bH,dF,rfl,cP⟩,hy⟩:=TF hx g6 h3
  by_cases hU:p'.ax=p.ax
  ·have qx:=di r 0 0 p' (by rcases hy with⟨o',l,c,rfl⟩|⟨o',rfl⟩<;>simp only[ho,footOf,h2,wo]) jb hr hU
   subst qx
   refine⟨.row [] bH dF,?_,fun c g z t hc=>?_,fun Hx hx=>?_⟩
   ·obtain⟨⟨C',e',bq,c1,c2,c3,c4,c5⟩,c6,c7⟩:=h5
    rw[hb]at c1
    simp only[wi,Obj.cells.injEq]at c1
    obtain⟨rfl,rfl,rfl⟩:=c1
    have bh:(lh C (p'.base+k) cG).size=C.size:=xM bh
    exact⟨⟨_,e,fr,hw,by rw[bh];exact c2,by rw[bh];exact c3,by rw[bh];simp only[waA];omega,fun i v h=>by simp at h⟩,c6,c7⟩
   ·cases hc
    exact h6 _ _ _ _ rfl
   ·unfold exOp
    simp only[ho,h2,g3,g4,g5,wo,cP Hx [] hx]
  ·exact⟨_,h5.mono (rP cp n₁) (gU _ hU),h6,h7⟩
 ·rw[ho]at h1
  cases h1
theorem lR.cells{T₁:Tr Value}{n₁:Nat}{u:Value}{o:Oper}{ty:TypeId}{x:Operand}{r q:Nat}(h:lR E call lo0 T₁ n₁ u o M w)(ho:o.op= .load ty x)(hx:ev T₁ x=some (ptr r q))(qv:∀ k,k<n₁→Maps.low k):
  (∀Hx,exOp E call T₁ o Hx=some (u,Hx))∨(r<n₁→∀ p,M r=some p→qs E ty u (below M n₁) p q w):=by
 rcases h with h|⟨x',y,r',h1,h2,h3,h4⟩|⟨FR,x',r',q',h1,h2,h3⟩
 ·exact .inl h
 ·rw[ho,loadsFrom,wi]at h1
  subst h1
  rw[hx,wi]at h2
  subst h2
  simp only[ptr,rowOfV,wi]at h3
  subst h3
  refine .inr fun hr p hp=>?_
  obtain⟨ob,h5,h6,h7⟩:=h4 hr p hp
  have cI:(({objs:=Tr.nil.set r ob,grps:=Tr.nil,next:=0,lo:=0}:Heap)).objs.get r=some ob:=by
   show((Tr.nil:Tr AObj).set r ob).get r=some ob
   exact Tr.mO (qv _ hr)
  have h8:=h7 _ cI
  unfold exOp at h8
  simp only[ho,hx,wo]at h8
  rw[we]at h8
  obtain⟨u',h9,aY⟩:=h8
  simp only[wi,wk]at aY
  rw[aY.1]at h9
  have aG:∃ cells g tp,ob= .row cells g tp:=by
   have aV:=h9
   simp only[loadV,ptr,cI]at aV
   split at aV
   ·rename_i cells g tp mc
    simp only[wi]at mc
    exact⟨cells,g,tp,mc⟩
   ·simp at aV
  obtain⟨cells,g,tp,rfl⟩:=aG
  obtain⟨⟨C',e',bq,c1,c2,c3,c4,c5⟩,_⟩:=h5
  exact FQ h9 cI c1 c5
 ·rw[ho]at h1
  cases h1
  rw[hx,wi]at h2
  simp only[ptr,Value.pointer.injEq,wi,wcE,wcl]at h2
  obtain⟨rfl,rfl⟩:=h2
  exact .inr h3
theorem qs.TH{ty:TypeId}{u:Value}{m₁ m₂ m₃:Match}{p p':dV}{q q':Nat}{w w':World}(cp:∀ r p q,m₁ r=some p→m₂ r=some q→m₃ r=some q)(h1:qs E ty u m₁ p q w)(h2:qs E ty u m₂ p' q' w'):qs E ty u m₃ p' q' w':=by
 obtain⟨i,cs,iI,C,e,fr,a1,a2,a3,a4,a5,a6,a7⟩:=h1
 obtain⟨i',ds,CH,D,e',bq,b1,b2,b3,b4,b5,b6,b7⟩:=h2
 rw[a1]at b1
 cases b1
 have TJ:cs=ds:=by
  cases ha:i.agg with
  |true=>
   have h1:=a6 ha
   have h2:=b6 ha
   rw[h1]at h2
   simpa using h2
  |false=>
   have h1:=a7 ha
   have h2:=b7 ha
   rw[ha]at a3 b3
   match cs,ds,a3,b3 with
   |[x],[y],_,_=>simp at h1 h2;rw[h1,h2]
 subst TJ
 exact⟨i,cs,CH,D,e',bq,a1,b2,a3,a4.sub cp b4,b5,b6,b7⟩
theorem LP{T:Tr Value}{H':Heap}{ty:TypeId}{t d:Tmp}:∀ {ks:List (TypeId×Tmp×Tmp)},keepOk E T H' ks=true→(ty,t,d)∈ks→∃ a u,T.get t=some a∧T.get d=some u∧loadV E H' ty a=some u
 |[],_,h=>by simp at h
 |(FR,t',d')::l,h,hm=>by
  simp only[keepOk,wA]at h
  rcases wad.1 hm with hm|hm
  ·cases hm
   have h1:=h.1
   split at h1
   ·rename_i a ha
    split at h1
    ·rename_i u hu
     split at h1
     ·rename_i u' FT
      exact⟨a,u,ha,hu,by rw[FT,TK h1]⟩
     ·simp at h1
    ·simp at h1
   ·simp at h1
  ·exact LP h.2 hm
theorem zV{T T2:Tr Value}{o:Oper}{Hx oE:Heap}{u:Value}(he:∀ x∈o.op.operands.toList,ev T2 x=ev T x)(h:exOp E call T o Hx=some (u,oE)):exOp E call T2 o Hx=some (u,oE):=by
 rw[TL he];exact h
theorem Inv.step(hS:Setup E call ops bf size T H v wt)(hc:qm B lo0 E call)(iq:lo0≤(H 0).lo)(I:Inv E call ops bf size T H v wt B lo0 m w₀ a₀ S c M a w){i:Nat}{o:Oper}(ho:ops[i]? =some o)(hi:¬ S i)(hd:∀ j,dG ops i j→S j)
  {ro:Option Nat} {Q:Exit→Act→World→Prop}:
  wpOpIn (fj ro) 0 E.P ops Q i (fun a' w'=>∃ c' M',Inv E call ops bf size T H v wt B lo0 m w₀ a₀ (fun j=>S j∨j=i) c' M' a' w') a w:=by
 obtain⟨T2,ht,mP,TM⟩:=I.looks hS ho hi hd
 have hlt:=jK ho
 have vt:=hS.text.want i o (jJ ho)
 rw[←TM]at vt
 have TN:=LQ vt ht
 have tT:=hS.mono (waz hlt) (wy _)
 have oU:=hS.mono (wJ i) (waz hlt)
 have h0:=hS.lo
 unfold wpOpIn
 simp only[ho,TN]
 cases hw:wt i with
 |false=>
  simp only[wG,waa]
  exact⟨xX,_,_,I.skip hS ho hi hd hw⟩
 |true=>
  simp only[wah]
  obtain⟨br,tU⟩:=hS.stat.info i o ho
  obtain⟨di,H',h1,h2⟩:=hS.text.done i o br (jJ ho) tU hw
  have qv:∀ k,k<(H i).next→Maps.low k:=fun k hk=>Maps.rM hS.next (wK (waz hk) tT)
  have oG:¬ dY o→H (i+1)=H i→∀ Hx:Heap,Rel B lo0 (below M (H i).next) Hx w→(H i).next≤Hx.lo→Hx.lo=Hx.next→exOp E call (T i) o Hx=some (v i,Hx)→
    o.wpIn (fj ro) 0 E.P a w (fun a' w'=>∃ c' M',Inv E call ops bf size T H v wt B lo0 m w₀ a₀ (fun j=>S j∨j=i) c' M' a' w') Q:=by
   intro a9 cK Hx hR aj LR hx
   refine CI hS.env hc hR ht (zV mP hx) fun v' w' m' hg hv=>⟨_,_,I.quiet hS ho hi hd a9 aj iq hg hv (fun r p hr=>?_) (by rw[cK];omega) (.inr (by rw[cK])) (fun r p x _ h3 h4=>by rw[cK]at h4;omega)⟩
   rcases hg.new r p hr with h|⟨_,h⟩
   ·exact .inl h
   ·have:=(hg.rel.dom r p hr).1;omega
  have LS:dY o→Rel B lo0 (below M (H i).next) {objs:=(H i).objs,grps:=(H i).grps,next:=(H i).next,lo:=bif br.grow then(H i).next else(H i).lo} w∧(H 0).lo≤(bif br.grow then(H i).next else(H i).lo)∧
    (∀l,l<i→¬ S l→¬ dG ops i l∧¬ dG ops l i)∧(∀(m':Match) (l:Nat),l<i→∀ r p,r<(H l).next→join M m' (H i).next (H (i+1)).next r=some p→M r=some p):=fun he=>by
   obtain⟨e1,e2,e3,e4⟩:=I.vk hS ho hi hd he
   have TO:∀ r p x,M r=some p→r<(H i).next→(H i).objs.get r=some x→∃ u,u≤(H i).next∧rN ops H S c u r x:=fun r p x hm hr hx=>by
    have:=I.trace hS (i-c) (by omega) (fun e p h1 h2 hp dp=>absurd dp (e4 e p h1 (by omega) hp)) r p x hm (by rw[show c+(i-c)=i by omega];exact hr) (by rw[show c+(i-c)=i by omega];exact hx)
    rwa [show c+(i-c)=i by omega]at this
   have zW:(H i).grps=(H c).grps:=by
    have:=I.grps hS (i-c) (by omega) (fun e p h1 h2 hp dp=>absurd dp (e4 e p h1 (by omega) hp))
    rwa [show c+(i-c)=i by omega]at this
   have jM:=hS.zL i (waz hlt)
   refine⟨I.rk.rel (by cases br.grow<;>simp<;>omega) (by cases br.grow<;>simp<;>omega) (wy _) TO (fun g l h=>by rw[←zW];exact h),by cases br.grow<;>simp<;>omega,fun l iJ fP=>⟨fun h=>fP (hd l h),fun h=>by have:=h.lt hS.stat.rO;omega⟩,fun m' l iJ r p hr hp=>?_⟩
   have:=hS.mono (waz iJ) (waz hlt)
   unfold join at hp
   rw[wI (by omega)]at hp
   exact hp
  cases hk:kindOf o.op with
  |pure=>
   have a9:¬ dY o:=fun h=>by rcases h with h|h<;>rw[hk]at h<;>cases h
   exact oG a9 (hS.still ho (.inr (.inl hk))) _ (CD I.rk tT (by omega)) tT rfl ((Ly hk h1).2 _)
  |load=>
   have a9:¬ dY o:=fun h=>by rcases h with h|h<;>rw[hk]at h<;>cases h
   have cK:=hS.still ho (.inr (.inr hk))
   have TP:lR E call lo0 (T i) (H i).next (v i) o M w:=by
    refine I.Tm hS ho hk hi hw fun e p h3 h4 hp dp _=>?_
    have TQ:¬ S e:=fun h=>by have:=(I.cU e p hp dp).1 h;omega
    have vu:¬ dG ops e i:=fun h=>by have:=h.lt hS.stat.rO;omega
    have zX:¬ dG ops i e:=fun h=>TQ (hd e h)
    obtain⟨gH,eh⟩:=hS.stat.info e p hp
    refine⟨gH,eh,?_⟩
    rcases dp with dp|dp
    ·have:=(hS.stat.LU e p i o gH hp ho dp hk eh vu zX).1;omega
    ·rcases hS.stat.grow e p i o gH hp ho dp hk eh vu zX with h|⟨h,_⟩|⟨_,h1,h2,h3,h4⟩
     ·exact .inl h
     ·omega
     ·exact .inr ⟨⟨h1,h2⟩,h3,h4⟩
   rcases TP with h|⟨x,u,r,h3,h4,h5,h6⟩|⟨ty,x,r,q,h3,h4,h5⟩
   ·exact oG a9 cK _ (CD I.rk tT (by omega)) tT rfl (h _)
   ·have hu:=cO ht ((mP x (by simpa using TR h3)).trans h4)
    obtain⟨p,hp⟩:=Lt hu h5
    obtain⟨hr,hp⟩:=dt.1 hp
    obtain⟨ob,h7,h8,h9⟩:=h6 hr p hp
    refine oG a9 cK _ (Te I.rk tT (by omega) hp h7 h8) tT rfl (h9 _ ?_)
    show((Tr.nil:Tr AObj).set r ob).get r=some ob
    exact Tr.mO (qv _ hr)
   ·have hu:=cO ht ((mP x (by rw[h3];simp[Op.operands])).trans h4)
    obtain⟨p,hp⟩:∃ p,below M (H i).next r=some p:=Lt hu rfl
    obtain⟨hr,TS⟩:=dt.1 hp
    obtain⟨v',h6,h7⟩:=TD hS.env (h5 hr p TS)
    have FP:a.eval x= .pointer (some ⟨p.ax,p.base+q,none⟩):=by
     generalize a.eval x=z at hu
     cases hu with
     |ptr h8=>rw[hp]at h8;cases h8;rfl
    have hR:Rel B lo0 (below M (H i).next) {objs:=Tr.nil,grps:=Tr.nil,next:=(H i).next,lo:=(H i).next} w:=CD I.rk (wy _) (by omega)
    have FU:UpTo E.P (fun rz fE=>rz=v'∧fE=w) ((execOp a.eval o).run E.P w):=by
     have:(execOp a.eval o).run E.P w= .ok (.value v') w:=by
      simp only[execOp,h3,FP,wB,h6,wu,wC]
     rw[this];exact⟨rfl,rfl⟩
    refine⟨xX,?_⟩
    rw[Oper.semAt_eq _ _ _ (FV h1)]
    refine UpTo.uponIn FU fun rz fE ⟨dv,qy⟩=>?_
    subst dv qy
    exact⟨_,_,I.quiet hS ho hi hd a9 (wy _) iq (.refl hR) h7 (fun r p hr=> .inl hr) (by rw[cK];omega) (.inr (by rw[cK])) (fun r p x _ h3 h4=>by rw[cK]at h4;omega)⟩
  |alloc=>
   have a9:¬ dY o:=fun h=>by rcases h with h|h<;>rw[hk]at h<;>cases h
   obtain⟨ob,h3,h4,_,h6,h7⟩:=hS.alloc ho hk hw
   have hR:Rel B lo0 (below M (H i).next) {objs:=Tr.nil,grps:=Tr.nil,next:=(H i).next,lo:=(H i).next} w:=CD I.rk (wy _) (by omega)
   refine CI hS.env hc hR ht (zV mP (h7 _ rfl)) fun v' w' m' hg hv=>⟨_,_,I.quiet hS ho hi hd a9 (wy _) iq hg hv (fun r p hr=>?_) (by omega) (.inl hk) (fun r p x hr h8 h9 hx=>?_)⟩
   ·rcases hg.new r p hr with h|⟨_,h⟩
    ·exact .inl h
    ·have:=(hg.rel.dom r p hr).1
     rw[ja]at this
     have h:(H i).next≤r:=h
     have this:r<(H i).next+1:=this
     exact .inr ⟨h,by omega⟩
   ·rcases h6 r x hx with⟨rfl,rfl⟩|⟨aY,_⟩
    ·refine⟨h3,hg.rel.obj _ p x hr ?_⟩
     simp only[Heap.add,fb,Tr.force_eq]
     exact Tr.mO (Maps.rM hS.next (by have h1:=hS.mono (i:=i+1) (j:=ops.size) hlt (wy _);omega))
    ·omega
  |call=>
   obtain⟨hR,aj,tV,zY⟩:=LS (.inr hk)
   refine CI hS.env hc hR ht (zV mP h1) fun v' w' m' hg hv=>⟨_,_,I.effect hS ho hi hd (.inr hk) aj (by rfl) h2 hg hv fun l ol gh FW iJ fP fG tW=>?_⟩
   obtain⟨f1,f2⟩:=tV l iJ fP
   have LR:=hS.mono (waz iJ) (waz hlt)
   have nQ:=I.join_le hS hi hlt m'
   rcases hS.stat.grow i o l ol br ho gh hk FW tU f1 f2 with xI|⟨_,vv,lt,ld,g1,g2,g3,g4,g5⟩|⟨FI,_⟩
   rotate_left
   ·
    obtain⟨av,u,k1,k2,k3⟩:=LP (hS.text.kept i o br (jJ ho) tU hw) g3
    have t1:(T i).get lt=(T l).get lt:=hS.same (hS.tN i (waz hlt) lt av k1) (waz iJ) (waz hlt) fun j q h1 _ hq=>g4 j q h1 hq
    have t2:(T i).get ld=(T (l+1)).get ld:=hS.same (hS.tN i (waz hlt) ld u k2) iJ (waz hlt) fun j q h1 _ hq=>g5 j q h1 hq
    rw[t2]at k2
    have hu:=hS.Lw gh g2 k2
    subst hu
    have aG:∃ r q cells g tp,av=ptr r q∧(H (i+1)).objs.get r=some (.row cells g tp):=by
     have k4:=k3
     unfold loadV at k4
     split at k4
     ·rename_i r q
      split at k4
      ·rename_i cells g tp mc
       exact⟨r,q,cells,g,tp,rfl,mc⟩
      ·simp at k4
     ·simp at k4
    obtain⟨r,q,cells,g,tp,rfl,iL⟩:=aG
    have LV:ev (T l) (.tmp lt)=some (ptr r q):=t1.symm.trans k1
    rcases tW.cells g1 LV (fun k hk=>Maps.rM hS.next (by omega))with h|tX
    ·exact .inl h
    refine .inr (.inr ⟨vv,.tmp lt,r,q,g1,LV,fun hr p hp=>?_⟩)
    have LW:=zY m' l iJ r p hr hp
    have TT:m' r=some p:=hg.le r p (dt.2 ⟨by omega,LW⟩)
    have TU:H'.objs.get r=some (.row cells g tp):=by rw[h2]at iL;exact iL
    obtain⟨⟨C,e,fr,c1,c2,c3,c4,c5⟩,_⟩:=hg.rel.obj r p _ TT TU
    refine(tX hr p LW).TH (fun r₁ p₁ q₁ h1 h2=>?_) (FQ k3 iL c1 c5)
    obtain⟨h3,h4⟩:=dt.1 h1
    refine dt.2 ⟨h3,?_⟩
    have h5:=hg.le r₁ p₁ (dt.2 ⟨by omega,h4⟩)
    rw[h2]at h5
    cases h5
    exact nQ r₁ p₁ h4
   ·omega
   refine tW.mono (I.join_le hS hi hlt m') (zY m' l iJ) fun r p _ hp=>hg.frame _ (I.rk.dom r p hp).1 fun r₁ p₁ FN LX=>?_
   have:=(dt.1 FN).1
   rw[xI]at LX
   simp only[wai]at LX
   omega
  |store=>
   obtain⟨hR,aj,tV,zY⟩:=LS (.inl hk)
   obtain⟨ty,x,y,bW⟩:∃ ty x y,o.op= .store ty x y:=by
    cases bW:o.op<;>rw[bW]at hk<;>simp only[kindOf,reduceCtorEq]at hk
    case convert s d x=>cases hb:Nat.beq s BT<;>rw[hb]at hk<;>cases hk
    ·exact⟨_,_,_,rfl⟩
    ·rename_i cc
     cases xK:cc.callee with
     |builtin b=>rw[xK]at hk;cases b<;>cases hk
     |_=>rw[xK]at hk;cases hk
   have TV:=hS.stat.store i o br ho hk tU
   obtain⟨r,k,n,p,C,e,fr,new,cG,g1,g2,g3,g4,g5,g6,⟨cells,gp,g7,g8,g9⟩,CJ⟩:=TB hS.env hR ht bW (zV mP h1)
   have LY:=LZ hS.env hc hR ht (zV mP h1)
   rw[iG,CJ]at LY
   obtain⟨m',hg,hv⟩:=LY
   have FU:UpTo E.P (fun v' w'=>v'=undef∧w'=dR w p.ax (.cells (lh C (p.base+k) cG) e fr)) ((execOp a.eval o).run E.P w):=by rw[CJ];exact⟨rfl,rfl⟩
   refine⟨xX,?_⟩
   rw[Oper.semAt_eq _ _ _ (FV h1)]
   refine UpTo.uponIn FU fun v' w' ⟨dv,qy⟩=>?_
   subst dv qy
   refine⟨_,_,I.effect hS ho hi hd (.inl hk) aj (by rfl) h2 hg hv fun l ol gh FW iJ fP fG tW=>?_⟩
   obtain⟨f1,f2⟩:=tV l iJ fP
   obtain⟨_,f4,lt,f5,f6⟩:=hS.stat.LU i o l ol br ho gh hk FW tU f1 f2
   obtain⟨g3r,L0⟩:=dt.1 g3
   have nQ:=I.join_le hS hi hlt m'
   have LR:=hS.mono (waz iJ) (waz hlt)
   have L3:p.ax<w.heap.size:=(I.rk.dom r p L0).1
   suffices mQ:∀ r' o' n' p',footOf E (T l) ol.op=some (r',o',n')→M r'=some p'→r'<(H l).next→p'.ax=p.ax→p'=p∧(k+cG.length≤o'∨o'+n'≤k) by
    rcases f5 with⟨vv,f5⟩|⟨vv,L4,L5,L6,f5⟩
    ·exact TE tW f5 (fun k hk=>Maps.rM hS.next (by omega)) nQ (zY m' l iJ) g4 (fun b hb=>uR _ hb) (nK _ L3) (by rw[←g6.1];omega) mQ
    ·exact TG tW f5 (fun k hk=>Maps.rM hS.next (by omega)) nQ (zY m' l iJ) g4 (fun b hb=>uR _ hb) (nK _ L3) (by rw[←g6.1];omega) fun r' o' n' p' hf eE ct hU=>(mQ r' o' n' p' hf eE ct hU).1
   intro r' o' n' p' hf eE ct hU
   have dZ:footOf E (T i) ol.op=some (r',o',n'):=by
    have:ev (T i) (.tmp lt)=ev (T l) (.tmp lt):=by
     have mP:∃ u,ev (T l) (.tmp lt)=some u:=by
      rcases f5 with⟨vv,f5⟩|⟨vv,L4,L5,L6,f5⟩<;>(rw[f5]at hf;simp only[footOf,we]at hf;obtain⟨u,hu,_⟩:=hf;exact⟨u,hu⟩)
     obtain⟨u,hu⟩:=mP
     have ma:=hS.tN l (by omega) lt u hu
     exact hS.same ma (waz iJ) (waz hlt) fun j q h1 _ hq=>f6 j q h1 hq
    rcases f5 with⟨vv,f5⟩|⟨vv,L4,L5,L6,f5⟩<;>(rw[f5]at hf ⊢;simp only[footOf,this]at hf ⊢;exact hf)
   have zZ:footOf E (T i) o.op=some (r,k,n):=by
    have vq:ev T2 x=ev (T i) x:=mP x (by rw[bW];simp[Op.operands])
    rw[bW]at g1⊢
    simp only[footOf,vq]at g1⊢
    exact g1
   have FX:(match(H i).objs.get r with|some (.row _ none _)=>apartFrom E (T i) (H i) r k n br.apart|_=>false)=true:=by
    unfold storeApart at di
    split at di
    ·rename_i mc;rw[mc]at f4;cases f4
    ·rw[show appOf o.op=none by rw[bW];rfl,zZ]at di;exact di
   split at FX
   ·rename_i cs tp aG
    rcases LO FX ol.op f4 r' o' n' dZ with⟨h3,h4⟩|⟨h3,h4⟩
    ·subst h3
     rw[L0]at eE;cases eE
     exact⟨rfl,by rw[←g6.1,g5];exact h4⟩
    ·exfalso
     obtain⟨x2,tY⟩:=wci.1 h4
     have xY:lo0≤r:=by
      rw[TV]at g2
      simp only[wS]at g2
      have:=(hS.zL i (waz hlt)).1
      omega
     have:=hR.sep r r' p p' _ x2 h3 xY g3 (dt.2 ⟨by omega,eE⟩) aG tY hU.symm
     exact this
   ·cases FX
end Go.AM
namespace Go.AM
section
variable[Maps]{B lo0:Nat}{E:Env}
variable{call:dc}{ops:Array Oper}{bf:List Info}{size:Nat}{T:Nat→Tr Value}{H:Nat→Heap}{v:Nat→Value}{wt:Nat→Bool}
variable{m:Match}{w₀:World}{a₀:Act}
def nR(N:Nat)(ck:Array Bool)(j:Nat):Prop:=j<N∧ck.getD j true=true
end
section
variable{B lo0:Nat}{m:Match}{w:World}{P:Program}
theorem nR.set{N:Nat}{ck:Array Bool}(hs:ck.size=N){i:Nat}(hi:i<N):(fun j=>nR N ck j∨j=i)=nR N (ck.setIfInBounds i true):=by
 funext j
 apply propext
 unfold nR
 by_cases hj:j=i
 ·subst hj
  simp[hi,wax,hs]
 ·have:(ck.setIfInBounds i true).getD j true=ck.getD j true:=by
   rw[wax,wax,wa8 (wbl hj)]
  rw[this]
  simp[hj]
theorem TW{md:Region.Mode}{e:Edge}(h:Region.binds .any e=true):Region.binds md e=true:=by
 unfold Region.binds at*
 split at h<;>simp_all
theorem count_set:∀ (l:List Bool) (i:Nat),l[i]? =some false→(l.set i true).count false+1=l.count false
 |[],i,h=>by simp at h
 |b::l,0,h=>by
  simp only[wQ,wi]at h
  subst h
  simp
 |b::l,i+1,h=>by
  have:=count_set l i (by simpa using h)
  simp only[List.set_cons_succ,List.count_cons]
  omega
end
section
variable[Maps]{B lo0:Nat}{E:Env}
variable{call:dc}{ops:Array Oper}{bf:List Info}{size:Nat}{T:Nat→Tr Value}{H:Nat→Heap}{v:Nat→Value}{wt:Nat→Bool}
variable{m:Match}{w₀:World}{a₀:Act}
theorem TX(hS:Setup E call ops bf size T H v wt)(hc:qm B lo0 E call)(iq:lo0≤(H 0).lo){ro:Option Nat}{Q:Exit→Act→World→Prop}{md:Region.Mode}
  (cP:∀ ck:Array Bool,Region.ready md ops ck=[]→ck.size=ops.size→∀ i,i<ops.size→ck.getD i true=true)
  (hq:∀ c M a w,Inv E call ops bf size T H v wt B lo0 m w₀ a₀ (fun j=>j<ops.size) c M a w→Q .normal a w):∀ (eP:Nat) (ck:Array Bool),ck.size=ops.size→ck.toList.count false≤eP→∀ c M a w,
  Inv E call ops bf size T H v wt B lo0 m w₀ a₀ (nR ops.size ck) c M a w→wpAnyIn (fj ro) 0 E.P md ops Q eP ck a w:=by
 have jF:∀ (ck:Array Bool),ck.size=ops.size→Region.ready md ops ck=[]→∀ c M a w,Inv E call ops bf size T H v wt B lo0 m w₀ a₀ (nR ops.size ck) c M a w→Q .normal a w:=fun ck hs hr c M a w I=>by
  have:nR ops.size ck=fun j=>j<ops.size:=by
   funext j
   apply propext
   exact⟨fun h=>h.1,fun h=>⟨h,cP ck hr hs j h⟩⟩
  rw[this]at I
  exact hq c M a w I
 intro eP
 induction eP with
 |zero=>
  intro ck hs hn c M a w I
  have hr:Region.ready md ops ck=[]:=by
   apply List.eq_nil_iff_forall_not_mem.2
   intro j hj
   have h1:=(mem_ready.1 hj).1
   have h2:false∈ck.toList:=by
    rw[wax]at h1
    cases h3:ck[j]? with
    |none=>rw[h3]at h1;simp at h1
    |some b=>rw[h3]at h1;simp at h1;subst h1;exact wag (by rw[wao];exact h3)
   have:=List.count_pos_iff.2 h2
   omega
  exact⟨hr,jF ck hs hr c M a w I⟩
 |succ eP ih=>
  intro ck hs hn c M a w I
  refine⟨fun hr=>jF ck hs hr c M a w I,fun i hi=>?_⟩
  obtain⟨h1,o,ho,h2⟩:=mem_ready.1 hi
  have hlt:=jK ho
  have oH:¬ nR ops.size ck i:=fun h=>by rw[h.2]at h1;cases h1
  have hd:∀ j,dG ops i j→nR ops.size ck j:=fun j hj=>by
   obtain⟨o',bG,e,h3,h4,h5⟩:=hj.inv
   rw[ho]at bG;cases bG
   have h3:e∈o.after:=by simpa using h3
   have h6:=h2 e h3 (TW h4)
   have h7:e.on<ops.size:=by
    rcases hS.stat.rO i o e ho h3 with h|h
    ·omega
    ·exact h.2
   have h8:nR ops.size ck e.on:=⟨h7,by
    have lU:e.on<ck.size:=by rw[hs];exact h7
    rw[wax,wa0 lU]at h6⊢
    simpa using h6⟩
   rcases h5 with h5|h5
   ·rw[←h5];exact h8
   ·exact I.closed e.on j h8 h5
  refine wpOpIn_mono (fun a' w' ⟨c',M',I'⟩=>?_) (I.step hS hc iq ho oH hd (ro:=ro) (Q:=Q))
  rw[nR.set hs hlt]at I'
  refine ih _ (by simpa using hs) ?_ c' M' a' w' I'
  have h3:ck.toList[i]? =some false:=by
   have lU:i<ck.size:=by rw[hs];exact hlt
   rw[wax,wa0 lU]at h1
   rw[wao,wa0 lU]
   simpa using h1
  have:=count_set ck.toList i h3
  rw[Array.toList_setIfInBounds]
  omega
end
section
variable{B lo0:Nat}{m:Match}{w:World}{P:Program}
theorem TY{M:Match}{n:Nat}(h:∀ r p,M r=some p→r<n):below M n=M:=by
 funext r
 unfold below
 split
 ·rfl
 ·rename_i hn
  cases hm:M r with
  |none=>rfl
  |some p=>exact absurd (h r p hm) hn
end
section
variable[Maps]{B lo0:Nat}{E:Env}
variable{call:dc}{ops:Array Oper}{bf:List Info}{size:Nat}{T:Nat→Tr Value}{H:Nat→Heap}{v:Nat→Value}{wt:Nat→Bool}
variable{m:Match}{w₀:World}{a₀:Act}
theorem Inv.start(hS:Setup E call ops bf size T H v wt){w:World}{a:Act}(hR:Rel B lo0 m (H 0) w)(ht:fy m (T 0) a.tmps)(hs:a.tmps.size=size):
  Inv E call ops bf size T H v wt B lo0 m w a (nR ops.size (Array.replicate ops.size false)) 0 m a w:=by
 have fK:∀ j,¬nR ops.size (Array.replicate ops.size false) j:=fun j h=>by
  have h1:=h.2
  rw[wax,Array.getElem?_replicate,wF h.1]at h1
  simp at h1
 refine⟨fun j h=>absurd h (fK j),fun i j h=>absurd h (fK i),wJ _,fun e o _ _=>⟨fun h=>absurd h (fK e),fun h=>by omega⟩,fun j o _ _ h=>by omega,?_,?_,fun j r p _ h=>absurd h (fK j),fun l o _ _ h=>by omega,hs,fun t k hk hw u hu=>?_,fun t _=>rfl,rfl⟩
 ·exact⟨m.le_refl,fun r p hr=> .inl ⟨hr,(hR.dom r p hr).1⟩,fun r p hr hn=>(by rw[hr]at hn;cases hn),fun b _ _=>rfl,wy _,rfl,rfl⟩
 ·refine(jI.LN hR).FJ (fun u r p o hm hk=>?_) (fun g l h=>h)
  rcases hk with⟨rfl,h1,h2⟩|⟨j,_,_,h3,_⟩
  ·exact⟨_,wy _,rfl,h2⟩
  ·exact absurd h3 (fK j)
 ·have lj:=hS.tN k hk t u hu
  rw[hS.same lj (wJ k) hk fun j o _ h1 ho hd=>fK j ((hw j o ho hd).2 h1)]at hu
  obtain⟨u',h1,h2⟩:=ht t u hu
  refine⟨u',h1,h2.mono fun r p hr=>dt.2 ⟨wq (hR.dom r p hr).1 (hS.mono (wJ k) hk),hr⟩⟩
theorem Setup.L7(hS:Setup E call ops bf size T H v wt):∀ i,i≤ops.size→dC (H 0) (H i)
 |0,_=> .refl _
 |i+1,h=>by
  obtain⟨o,ho⟩:=tM (ops:=ops) (i:=i) (by omega)
  exact(hS.L7 i (by omega)).trans (hS.xS ho)
theorem Inv.finish(hS:Setup E call ops bf size T H v wt){c:Nat}{M:Match}{a:Act}{w:World}(aj:lo0≤(H 0).lo)(I:Inv E call ops bf size T H v wt B lo0 m w₀ a₀ (fun j=>j<ops.size) c M a w):
  Good B lo0 m (H 0) w₀ M (H ops.size) w∧fy M (T ops.size) a.tmps:=by
 have hlt:∀ r p,M r=some p→r<(H ops.size).next:=fun r p hr=>by
  rcases I.out.dom r p hr with⟨_,h⟩|⟨_,j,h1,h2,h3⟩
  ·exact wq h (hS.mono (wJ _) (wy _))
  ·exact wq h3 (hS.mono h1 (wy _))
 have jM:=hS.zL ops.size (wy _)
 have fK:∀ (e:Nat) (p:Oper),c≤e→ops[e]? =some p→¬ dY p:=fun e p h1 hp dp=>by
  have:=(I.cU e p hp dp).1 (jK hp)
  omega
 have hR:Rel B lo0 (below M (H ops.size).next) (H ops.size) w:=by
  refine I.rk.rel (by omega) jM.2.1 (wy _) (fun r p x hm hr hx=>?_) (fun g l hl=>?_)
  ·have:=I.trace hS (ops.size-c) (by have:=I.cN;omega) (fun e p h1 h2 hp dp=>absurd dp (fK e p h1 hp)) r p x hm (by rw[show c+(ops.size-c)=ops.size by have:=I.cN;omega];exact hr) (by rw[show c+(ops.size-c)=ops.size by have:=I.cN;omega];exact hx)
   rwa [show c+(ops.size-c)=ops.size by have:=I.cN;omega]at this
  ·have:=I.grps hS (ops.size-c) (by have:=I.cN;omega) (fun e p h1 h2 hp dp=>absurd dp (fK e p h1 hp))
   rw[show c+(ops.size-c)=ops.size by have:=I.cN;omega]at this
   rwa [this]at hl
 rw[TY hlt]at hR
 have tZ:=hS.L7 ops.size (wy _)
 refine⟨⟨I.out.le,hR,fun r p hr=>?_,I.out.ax,jM.2.2,jM.1,I.out.frame,I.out.size,tZ.low,I.out.os⟩,fun t u hu=>?_⟩
 ·rcases I.out.dom r p hr with⟨h,_⟩|⟨h0,j,h1,h2,_⟩
  ·exact .inl h
  ·exact .inr ⟨h0,wK (hS.mono (wJ j) (waz h1)) h2⟩
 ·obtain⟨u',h1,h2⟩:=I.tmps t ops.size (wy _) (fun j o ho _=>⟨fun h=>h,fun h=>h⟩) u hu
  exact⟨u',h1,h2.mono (TZ _ _)⟩
theorem Ua(hE:EnvOk E){call:dc}(hc:∀ B lo0,qm B lo0 E call)(tX:nL call){id:Nat}{ops:Array Oper}{fr:Fr}{m:Match}{H:Heap}{w:World}{T':Tr Value}{H':Heap}{a:Act}{ro:Option Nat}(hR:Rel B lo0 m H w)(hf:gG m fr a ro)
  (h:rJ E call ops fr.size fr.T H=some (T',H')):
  (Code.region id ops true).wpIn (fj ro) 0 E.P (fU B lo0 m H w (.region id ops true) a ro .normal {T:=T',size:=fr.size,marks:=fr.marks,round:=fr.round} H') a w:=by
 unfold rJ at h
 obtain⟨h1,h⟩:=cM h
 simp only[we]at h
 obtain⟨bf,h2,r,h3,h4⟩:=h
 obtain⟨h5,h6⟩:=cr h4
 simp only[wi]at h6
 subst h6
 obtain⟨cK,Ub⟩:=Uc h2
 obtain⟨Tf,Hf,vf,wf,e1,e2,e3,e4,e5⟩:=FY h3
 simp only[waF]at e3 e4
 have hS:Setup E call ops bf fr.size Tf Hf vf wf:={
  env:=hE,low:=tX,stat:=cK,text:=e5,lo:=by rw[e2];exact hR.ag,
  tm:=fun t u hu=>by
   rw[e1]at hu
   obtain⟨u',h7,_⟩:=hf.tmps t u hu
   rw[←hf.size]
   exact(w0.1 h7).1
  size:=by
   simp only[waM]at h1
   exact h1
  next:=by rw[e4];exact h5}
 have L8:Good B lo0 m H w m H {w with drawn:=w.drawn+1}:=Good.same hR rfl ⟨rfl,rfl⟩
 have Ud:Rel B lo0 m (Hf 0) {w with drawn:=w.drawn+1}:=by rw[e2];exact L8.rel
 have I0:=Inv.start hS Ud (by rw[e1];exact hf.tmps) hf.size
 have iq:lo0≤(Hf 0).lo:=by rw[e2];exact hR.lo
 have Ue:(Array.replicate ops.size false).toList.count false≤ops.size:=by simp
 have FZ:∀ c M a' w',Inv E call ops bf fr.size Tf Hf vf wf B lo0 m {w with drawn:=w.drawn+1} a (fun j=>j<ops.size) c M a' w'→
   fU B lo0 m H w (.region id ops true) a ro .normal {T:=T',size:=fr.size,marks:=fr.marks,round:=fr.round} H' .normal a' w':=fun c M a' w' I=>by
  obtain⟨h7,h8⟩:=I.finish hS iq
  rw[e2,e4]at h7
  rw[e3]at h8
  have hg:=L8.trans h7
  refine⟨rfl,M,hg,⟨h8,I.zO,by rw[I.defers];exact hf.marks.mono hg.le,hf.round⟩,fun t ht=>I.cz t fun j o ho hd=>ht ?_⟩
  simp only[writesOf,wcz]
  exact⟨o,wag (jJ ho),hd⟩
 have zv:∀ (md:Region.Mode),(∀ck:Array Bool,Region.ready md ops ck=[]→ck.size=ops.size→∀ i,i<ops.size→ck.getD i true=true)→∀ t,
   wpOpsIn (fj ro) 0 E.P ops (fU B lo0 m H w (.region id ops true) a ro .normal {T:=T',size:=fr.size,marks:=fr.marks,round:=fr.round} H') (Region.linearise md ops t) a {w with drawn:=w.drawn+1}:=fun md cP t=>
  wpAnyIn_sound ops.size t _ a _ (TX hS (hc B lo0) iq cP FZ ops.size _ (by simp) Ue 0 m a _ I0)
 have L9:∀ (md:Region.Mode),(md= .any∨md= .text)→∀ (i:Nat) (o:Oper) (e:Edge),ops[i]? =some o→e∈o.after→Region.binds md e=true→e.on<ops.size∧e.on<i:=fun md Uf i o e ho he hb=>by
  rcases cK.rO i o e ho he with h|⟨⟨rr,h⟩,_⟩
  ·have:=jK ho
   exact⟨by omega,h⟩
  ·rcases Uf with rfl|rfl<;>simp[Region.binds,h]at hb
 refine wpIn_region_draw fun t=>?_
 unfold Region.schedule
 split
 ·exact zv .any (fun ck hr hs=>Ma (fun i=>i) (L9 .any (.inl rfl)) hr hs) t
 ·split
  ·exact zv .text (fun ck hr hs=>Ma (fun i=>i) (L9 .text (.inr rfl)) hr hs) _
  ·exact zv .gc (fun ck hr hs=>Mb hr hs 20 0 Ub fun j hj=>by simp at hj) _
end
end Go.AM
