/-
  Walks over letters of the functions that the law reaches; written small by a program of mine.
-/
import Derived.Test.YtjgppeeplkidpaaGreatAMa
import Derived.Laws.BytesString
import Derived.Laws.Externs
import Derived.KernelRfl
import Derived.OrdersIn
set_option linter.unusedSimpArgs false
set_option linter.unusedVariables false
set_option linter.unusedSectionVars false
namespace Go.AM
section
variable[Maps]{B lo0:Nat}{m:Match}{H:Heap}{w:World}{E:Env}
def UpTo(P:Program)(R:Value→World→Prop):Result Next→Prop
 | .ok (.value v) w'=>R v w'
 | .ok .skip w'=>R undef w'
 | .ok (.enter f args) w'=>CallsIn Fence.wide 0 P f args w' fun e fD=>∃ v,e= .returned v∧R v fD
 | .ok (.round l f tmps assign body) w'=>RoundIn Fence.wide 0 P l f tmps assign body w' fun e fD=>∃ v,e= .returned v∧R v fD
 |_=>False
end
section
variable{B lo0:Nat}{m:Match}{w:World}{P:Program}
theorem UpTo.mono{P:Program}{R R':Value→World→Prop}{r:Result Next}(h:UpTo P R r)(hr:∀ v w',R v w'→R' v w'):UpTo P R' r:=by
 unfold UpTo at*
 split at h<;>first
  |exact hr _ _ h
  |exact h.mono fun e fD ⟨v,he,hv⟩=>⟨v,he,hr _ _ hv⟩
  |exact h.elim
end
section
variable[Maps]{B lo0:Nat}{m:Match}{H:Heap}{w:World}{E:Env}
def fg(ro:Option Nat):Fence:={Fence.wide with round:=ro}
end
section
variable{B lo0:Nat}{m:Match}{w:World}{P:Program}
theorem UpTo.uponIn{P:Program}{R:Value→World→Prop}{r:Result Next}{o:Oper}{a:Act}{next:Act→World→Prop}{Q:Exit→Act→World→Prop}{ro:Option Nat}(h:UpTo P R r)
  (hn:∀ v w',R v w'→next (a.put o.dst v) w'):o.uponIn (fg ro) 0 P a next Q r:=by
 unfold UpTo at h
 split at h
 ·exact hn _ _ h
 ·exact hn _ _ h
 ·rw[Oper.uponIn_enter]
  refine⟨fun h=>by simp[fg,Fence.wide]at h,?_⟩
  have h2:CallsIn (fg ro) 0 P _ _ _ _:=h
  exact h2.mono fun e fD ⟨v,he,hv⟩=>by subst he;exact hn _ _ hv
 ·rw[Oper.uponIn_round]
  refine⟨fun h=>by simp[fg,Fence.wide]at h,?_⟩
  have h2:RoundIn (fg ro) 0 P _ _ _ _ _ _ _:=h
  exact h2.mono fun e fD ⟨v,he,hv⟩=>by subst he;exact hn _ _ hv
 ·exact h.elim
end
section
variable[Maps]{B lo0:Nat}{m:Match}{H:Heap}{w:World}{E:Env}
def qp(B lo0:Nat)(E:Env)(call:cT):Prop:=∀ f args H v H',call f args H=some (v,H')→∀ m w f' (bI:Array Value),VRel m f f'→LRel m args bI.toList→Rel B lo0 m H w→
 UpTo E.P (fun v' w'=>∃ m',Good B lo0 m H w m' H' w'∧VRel m' v v') ((do let d ←Deferred.ofValue f' bI;invoke d.target d.args:Sem Next).run E.P w)
abbrev iB(B lo0:Nat)(E:Env)(m:Match)(H:Heap)(w:World)(v:Value)(H':Heap)(r:Result Next):Prop:=UpTo E.P (fun v' w'=>∃ m',Good B lo0 m H w m' H' w'∧VRel m' v v') r
theorem iB.still{s:Sem Value}{v v':Value}(hR:Rel B lo0 m H w)(h:s.run E.P w= .ok v' w)(hv:VRel m v v'):iB B lo0 E m H w v H ((do pure (.value (←s)):Sem Next).run E.P w):=by
 simp only[wB,h,wu,wC]
 exact⟨m,.refl hR,hv⟩
theorem iB.made{s:Sem Value}{v v':Value}{m':Match}{H':Heap}{w':World}(h:s.run E.P w= .ok v' w')(hg:Good B lo0 m H w m' H' w')(hv:VRel m' v v'):
  iB B lo0 E m H w v H' ((do pure (.value (←s)):Sem Next).run E.P w):=by
 simp only[wB,h,wu,wC]
 exact⟨m',hg,hv⟩
theorem iB.done{s:Sem Unit}{m':Match}{H':Heap}{w':World}(h:s.run E.P w= .ok () w')(hg:Good B lo0 m H w m' H' w'):iB B lo0 E m H w undef H' ((do s;pure .skip:Sem Next).run E.P w):=by
 simp only[wB,h,wu,wC]
 exact⟨m',hg,F2 m'⟩
theorem K0(hE:EnvOk E){x x' rv:Value}{name:String}{f:FuncId}(h:methodOf E x name=some (f,rv))(hx:VRel m x x'):
  ∃t v tG,x'= .iface t v∧(∀n w,(method (n+1) t v name).run E.P w= .ok (f,tG) w)∧VRel m rv tG:=by
 unfold methodOf at h
 split at h
 ·rename_i t v
  cases hx with
  |iface _ hv=>
   rename_i v'
   simp only[we]at h
   obtain⟨info,h1,md,h2,h3⟩:=h
   split at h3
   ·rename_i f₀ pr hp hf
    simp only[we]at h3
    obtain⟨j,h4,h5⟩:=h3
    refine⟨t,v',v',rfl,fun n w=>?_,?_⟩
    ·have Am:(typeInfo t).run E.P w= .ok info w:=run_typeInfo w h1
     have hu:=hE.desc h4 rfl w
     cases pr with
     |true=>
      cases hd:j.desc<;>simp only[hd,reduceCtorEq,wi,wk]at h5
      rw[hd]at hu
      simp only[method,wB,Am,wu,h2,hp,follow,wC,hf,receiverAt,hu,Place.get,h5.1]
     |false=>
      have F3:∀ e,j.desc≠ .pointer e:=fun e hd=>by rw[hd]at h5;simp at h5
      have h6:f₀=f:=by cases hd:j.desc<;>simp only[hd,reduceCtorEq,wi,wk]at h5<;>exact h5.1
      cases hd:j.desc<;>first
       |(exact absurd hd (F3 _))
       |(rw[hd]at hu;simp only[method,wB,Am,wu,h2,hp,follow,wC,hf,receiverAt,hu,Place.get,h6])
    ·cases pr with
     |true=>cases hd:j.desc<;>simp only[hd,reduceCtorEq,wi,wk]at h5;rw[←h5.2];exact hv
     |false=>cases hd:j.desc<;>simp only[hd,reduceCtorEq,wi,wk]at h5<;>(rw[←h5.2];exact hv)
   ·simp at h3
 ·simp at h
theorem S9{T:Tr Value}{a:Act}(ht:fk m T a.tmps){x:Option Operand}{v:Option Value}(h:evO T x=some v):(x=none∧v=none)∨∃ y u,x=some y∧v=some u∧VRel m u (a.eval y):=by
 cases x with
 |none=>simp only[evO,wi]at h;exact .inl ⟨rfl,h.symm⟩
 |some y=>
  simp only[evO,we,wi]at h
  obtain⟨u,h1,rfl⟩:=h
  exact .inr ⟨y,u,rfl,rfl,cE ht h1⟩
def isInt?(x:Option Value):Prop:=x=none∨∃ k n,x=some (.int k n)
end
section
variable{B lo0:Nat}{m:Match}{w:World}{P:Program}
theorem Df{len cap:Nat}{lo hi mx:Option Value}{b:Nat×Nat×Nat}(h:bounds len cap lo hi mx=some b):isInt? lo∧isInt? hi∧isInt? mx:=by
 simp only[bounds,we,wi]at h
 obtain⟨mm,h1,hh,h2,ll,h3,_⟩:=h
 refine⟨?_,?_,?_⟩
 ·cases lo with
  |none=>exact .inl rfl
  |some v=>cases v<;>simp only[reduceCtorEq]at h3;exact .inr ⟨_,_,rfl⟩
 ·cases hi with
  |none=>exact .inl rfl
  |some v=>cases v<;>simp only[reduceCtorEq]at h2;exact .inr ⟨_,_,rfl⟩
 ·cases mx with
  |none=>exact .inl rfl
  |some v=>cases v<;>simp only[reduceCtorEq]at h1;exact .inr ⟨_,_,rfl⟩
end
section
variable[Maps]{B lo0:Nat}{m:Match}{H:Heap}{w:World}{E:Env}
theorem Ta{t:TypeId}{x v:Value}{lo hi mx:Option Value}(h:sliceV E H t x lo hi mx=some v):isInt? lo∧isInt? hi∧isInt? mx:=by
 simp only[sliceV,we]at h
 obtain⟨i,_,h⟩:=h
 split at h
 ·split at h
  ·simp at h
  ·simp only[we]at h
   obtain⟨b,h3,_⟩:=h
   exact Df h3
 ·obtain⟨_,h⟩:=cD h
  simp only[we]at h
  obtain⟨b,h3,_⟩:=h
  exact Df h3
 ·obtain⟨_,h⟩:=cD h
  simp only[we]at h
  obtain⟨b,h3,_⟩:=h
  exact Df h3
 ·simp only[we]at h
  obtain⟨b,h3,_⟩:=h
  exact Df h3
 ·simp at h
theorem F4{T:Tr Value}{a:Act}(ht:fk m T a.tmps){x:Option Operand}{v:Option Value}(h:evO T x=some v)(hi:isInt? v):x.map a.eval=v:=by
 rcases S9 ht h with⟨rfl,rfl⟩|⟨y,u,rfl,rfl,hr⟩
 ·rfl
 ·rcases hi with hi|⟨k,n,hi⟩
  ·cases hi
  ·simp only[wi]at hi
   subst hi
   simp only[waE]
   generalize a.eval y=z at hr
   cases hr
   rfl
theorem Tb{t:TypeId}{l c v:Value}{H':Heap}(h:makeSliceV E H t l c=some (v,H')):(∃k n,l= .int k n)∧∃ k n,c= .int k n:=by
 simp only[makeSliceV,we]at h
 obtain⟨i,_,h⟩:=h
 split at h
 ·exact⟨⟨_,_,rfl⟩,_,_,rfl⟩
 ·simp at h
theorem Tc(hE:EnvOk E){s d:TypeId}{x x' v:Value}(h:convV E s d x=some v)(hx:VRel m x x')(w:World):∃ v',(convert s d x').run E.P w= .ok v' w∧VRel m v v':=by
 simp only[convV,we]at h
 obtain⟨i,h1,j,h2,h3⟩:=h
 split at h3
 ·rename_i k kn n hd
  cases hx
  rw[j0 h3]
  refine⟨_,?_,.int _ _⟩
  simp only[convert,wB,hE.desc h1 rfl,hE.desc h2 hd,wu,Conv.intToInt,wC]
 ·rename_i hd
  cases hx
  simp only[wi]at h3
  subst h3
  refine⟨_,?_,.string _⟩
  simp only[convert,wB,hE.desc h1 rfl,hE.desc h2 hd,wu,wC]
 ·simp at h3
end
section
variable{m:Match}
theorem K1:∀ {l:List Value} {ns:List Int},bytesOf l=some ns→l=ns.map (Value.int .u8)
 |[],ns,h=>by simp only[bytesOf,wi]at h;subst h;rfl
 |x::l,ns,h=>by
  unfold bytesOf at h
  split at h
  ·rename_i e;cases e
  ·rename_i n l' e
   simp only[wbQ]at e
   obtain⟨rfl,rfl⟩:=e
   simp only[we,wi]at h
   obtain⟨r,h1,rfl⟩:=h
   rw[K1 h1];rfl
  ·cases h
theorem K7:∀ {ns:List Int} {l':List Value},LRel m (ns.map (Value.int .u8)) l'→l'=ns.map (Value.int .u8)
 |[],l',h=>h.mG
 |n::ns,l',h=>by
  obtain⟨v',r,rfl,h1,h2⟩:=LRel.oC (show LRel m (Value.int .u8 n::ns.map (Value.int .u8)) l' from h)
  cases h1
  rw[K7 h2];rfl
end
section
variable[Maps]{B lo0:Nat}{m:Match}{H:Heap}{w:World}{E:Env}
theorem Td(hE:EnvOk E)(hR:Rel B lo0 m H w){s d:TypeId}{x x' v:Value}(h:bytesStrV E H s d x=some v)(hx:VRel m x x'):∃ v',(convert s d x').run E.P w= .ok v' w∧VRel m v v':=by
 simp only[bytesStrV,we]at h
 obtain⟨i,h1,j,h2,h3⟩:=h
 split at h3
 ·rename_i e a n c hd hj
  simp only[we]at h3
  obtain⟨k,h4,h5⟩:=h3
  split at h5
  ·rename_i hk
   simp only[we,wi]at h5
   obtain⟨l,h6,ns,h7,rfl⟩:=h5
   obtain⟨l',h8,h9⟩:=zY (k:=n) (size:=1) hR h6 hx (waY n) (fun a' e'=>by cases e';rfl)
   have h9:=h9 w rfl E.P
   rw[K1 h7]at h8
   rw[K7 h8]at h9
   have key:∀ a' c',x'= .slice (some a') n c'→(convert s d x').run E.P w= .ok (.string (K8 ns)) w:=fun a' c' e'=>by
    subst e'
    have Dg:(underlying s).run E.P w= .ok (.slice e) w:=hE.desc h1 hd w
    have K9:(underlying d).run E.P w= .ok .string w:=hE.desc h2 hj w
    have La:(underlying e).run E.P w= .ok (.int .u8) w:=hE.desc h4 hk w
    have hc:(convert s d (.slice (some a') n c')).run E.P w=(Conv.bytesToString (.slice (some a') n c')).run E.P w:=by
     simp only[convert,wB,Dg,K9,La,wu]
    rw[hc]
    exact run_bytesToString w a' n c' ns (by simpa only[Builtin.firstCells,waY]using h9)
   cases hx with
   |slice hm hc he hi=>exact⟨_,key _ _ rfl,.string _⟩
   |empty a hm he=>exact⟨_,key _ _ rfl,.string _⟩
  ·cases h5
 ·cases h3
theorem Lb{mm:Option Nat}{es:List (Value×Value)}(h:entriesOf H mm=some es):(mm=none∧es=[])∨∃ r,mm=some r∧H.objs.get r=some (.map es):=by
 cases mm with
 |none=>simp only[entriesOf,wi]at h;exact .inl ⟨rfl,h.symm⟩
 |some r=>
  simp only[entriesOf]at h
  cases hr:H.objs.get r with
  |none=>rw[hr]at h;simp at h
  |some o=>
   rw[hr]at h
   cases o<;>simp only[reduceCtorEq,wi]at h
   subst h
   exact .inr ⟨r,rfl,hr⟩
theorem Te(hE:EnvOk E)(hR:Rel B lo0 m H w){mm:Option Nat}{x':Value}{es:List (Value×Value)}{t k e:TypeId}{i:TI}(h1:E.ty.get t=some i)(hd:i.desc= .map k e)(h:entriesOf H mm=some es)(hx:VRel m (.map mm) x'):
  ∃v' w' m',(Instr.range t x').run E.P w= .ok v' w'∧Good B lo0 m H w m' (H.add (.iter mm es.length .start)) w'∧VRel m' (ptr H.next 0) v':=by
 have lf:∃ iC n,x'= .map iC∧n=es.length∧(match mm with|none=>iC=none|some r=>∃ q,m r=some q∧iC=some q.ax)∧(iC=none∧n=0∨∃ b bb,iC=some b∧w.heap[b]? =some (.map bb n)):=by
  rcases Lb h with⟨rfl,rfl⟩|⟨r,rfl,hr⟩
  ·cases hx
   exact⟨none,0,rfl,rfl,rfl,.inl ⟨rfl,rfl⟩⟩
  ·cases hx with
   |map hm=>
    obtain⟨bb,a,b,_⟩:=hR.obj r _ _ hm hr
    exact⟨_,bb.size,rfl,b,⟨_,hm,rfl⟩,.inr ⟨_,bb,rfl,a⟩⟩
 obtain⟨iC,n,rfl,hn,An,hw⟩:=lf
 subst hn
 have bG:(Instr.range t (.map iC)).run E.P w= .ok (.pointer (some ⟨w.heap.size,0,none⟩)) (w.alloc (.mapIter iC es.length #[] es.length)):=by
  rcases hw with⟨rfl,h0⟩|⟨b,bb,rfl,hb⟩
  ·rw[h0]
   simp only[Instr.range,wB,hE.desc h1 hd,wu,wC,wbN]
   rfl
  ·simp only[Instr.range,wB,hE.desc h1 hd,wu,ib hb (fun c e f h=>by cases h),wC,wbN]
   rfl
 refine⟨_,_,_,bG,Good.added hR (.mapIter iC es.length #[] es.length) _ ⟨w.heap.size,0,0,true,0⟩ rfl (w':=w.alloc (.mapIter iC es.length #[] es.length)) rfl ⟨rfl,rfl⟩ ⟨rfl,iC, #[],by show(w.heap.push _)[w.heap.size]? =_;simp,?_,rfl⟩
  (fun c g t h=>by cases h),VRel.ptr (o:=0) (jx _ _ _)⟩
 cases mm with
 |none=>exact An
 |some r=>obtain⟨q,h3,h4⟩:=An;exact⟨q,pe _ hR.pg _ _ h3,h4⟩
theorem Tg(hE:EnvOk E)(hR:Rel B lo0 m H w){mm:Option Nat}{q:Nat×Nat}{x':Value}{t k e:TypeId}{i:TI}(h1:E.ty.get t=some i)(hd:i.desc= .map k e)(h:gOf H mm=some q)(hx:VRel m (.map mm) x'):
  ∃v' w' m',(Instr.range t x').run E.P w= .ok v' w'∧Good B lo0 m H w m' (H.add (.lJ q.1 q.2 [] q.2)) w'∧VRel m' (ptr H.next 0) v':=by
 cases mm with
 |none=>simp[gOf]at h
 |some r=>
  simp only[gOf]at h
  split at h
  ·rename_i es c hr
   simp only[wi]at h
   subst h
   cases hx with
   |map hm=>
    rename_i p
    obtain⟨bb,a,b,_⟩:=hR.obj r p _ hm hr
    have bG:(Instr.range t (.map (some p.ax))).run E.P w= .ok (.pointer (some ⟨w.heap.size,0,none⟩)) (w.alloc (.mapIter (some p.ax) c #[] c)):=by
     simp only[Instr.range,wB,hE.desc h1 hd,wu,ib a (fun c e f h=>by cases h),wC,wbN]
     rfl
    exact⟨_,_,_,bG,Good.added hR (.mapIter (some p.ax) c #[] c) _ ⟨w.heap.size,0,0,true,0⟩ rfl (w':=w.alloc (.mapIter (some p.ax) c #[] c)) rfl ⟨rfl,rfl⟩ ⟨rfl,p,pe _ hR.pg _ _ hm,by show(w.heap.push _)[w.heap.size]? =_;simp⟩
     (fun c g t h=>by cases h),VRel.ptr (o:=0) (jx _ _ _)⟩
  ·simp at h
theorem Th(hE:EnvOk E)(hR:Rel B lo0 m H w){s:ByteArray}{x':Value}{t:TypeId}{i:TI}(h1:E.ty.get t=some i)(hd:i.desc= .string)(hx:VRel m (.string s) x'):
  ∃v' w' m',(Instr.range t x').run E.P w= .ok v' w'∧Good B lo0 m H w m' (H.add (.po s 0)) w'∧VRel m' (ptr H.next 0) v':=by
 cases hx
 have bG:(Instr.range t (.string s)).run E.P w= .ok (.pointer (some ⟨w.heap.size,0,none⟩)) (w.alloc (.stringIter s 0)):=by
  simp only[Instr.range,wB,hE.desc h1 hd,wu,wC,wbN]
  rfl
 exact⟨_,_,_,bG,Good.added hR (.stringIter s 0) _ ⟨w.heap.size,0,0,true,0⟩ rfl (w':=w.alloc (.stringIter s 0)) rfl ⟨rfl,rfl⟩ ⟨rfl,by show(w.heap.push _)[w.heap.size]? =_;simp⟩
  (fun c g t h=>by cases h),VRel.ptr (o:=0) (jx _ _ _)⟩
end
section
theorem Lc(n:Nat):∀ l,qt n l=l.contains n
 |[]=>rfl
 |y::l=>by
  simp only[qt,List.contains_cons,Lc n l]
  congr 1
  rw[waU]
  simp only[wbp,wbO]
  exact eq_comm
theorem Ld{m:Match}(f:Nat→Bool):∀ (es:List ((Value×Value)×Nat)) (l:List MapEntry),l.length=es.length→(∀(i:Nat) (e:(Value×Value)×Nat),es[i]? =some e→∃ e':MapEntry,l[i]? =some e'∧VRel m e.1.1 e'.key∧VRel m e.1.2 e'.val∧e'.born=e.2)→
  (l.filter fun e=>f e.born).length=(es.filter fun e=>f e.2).length∧∀ (i:Nat) (e:(Value×Value)×Nat),(es.filter fun e=>f e.2)[i]? =some e→∃ e':MapEntry,(l.filter fun e=>f e.born)[i]? =some e'∧VRel m e.1.1 e'.key∧VRel m e.1.2 e'.val∧e'.born=e.2
 |[],[],_,_=>⟨rfl,fun i e h=>by simp at h⟩
 |[],_::_,h,_=>by simp at h
 |_::_,[],h,_=>by simp at h
 |e::es,e'::l,h,d=>by
  obtain⟨e₁,h1,h2,h3,h4⟩:=d 0 e rfl
  simp only[wQ,wi]at h1
  subst h1
  obtain⟨g1,g2⟩:=Ld f es l (by simpa using h) fun i x hx=>by simpa using d (i+1) x (by simpa using hx)
  simp only[wce,h4]
  cases f e.2 with
  |false=>exact⟨g1,g2⟩
  |true=>
   simp only[wah,wY,g1,wbT]
   intro i x hx
   cases i with
   |zero=>
    simp only[wQ,wi]at hx
    subst hx
    exact⟨e',rfl,h2,h3,h4⟩
   |succ i=>exact g2 i x (by simpa using hx)
theorem Le{m:Match}{s:Nat}:∀ (es:List ((Value×Value)×Nat)) (l:List MapEntry),l.length=es.length→(∀(i:Nat) (e:(Value×Value)×Nat),es[i]? =some e→∃ e':MapEntry,l[i]? =some e'∧VRel m e.1.1 e'.key∧VRel m e.1.2 e'.val∧e'.born=e.2)→
  ∀{e},(es.find? fun e=>Nat.beq e.2 s)=some e→∃ e':MapEntry,(l.find? fun x=>x.born==s)=some e'∧VRel m e.1.1 e'.key∧VRel m e.1.2 e'.val
 |[],_,_,_,e,he=>by simp at he
 |_::_,[],h,_,e,he=>by simp at h
 |x::es,x'::l,h,d,e,he=>by
  obtain⟨e₁,h1,h2,h3,h4⟩:=d 0 x rfl
  simp only[wQ,wi]at h1
  subst h1
  rw[List.find?_cons]at he⊢
  have hb:(x'.born==s)=Nat.beq x.2 s:=by
   rw[h4,waU];simp
  rw[hb]
  cases hc:Nat.beq x.2 s with
  |true=>
   rw[hc]at he
   simp only[wi]at he
   subst he
   exact⟨x',rfl,h2,h3⟩
  |false=>
   rw[hc]at he
   exact Le es l (by simpa using h) (fun i y hy=>by simpa using d (i+1) y (by simpa using hy)) he
theorem Ti{s:ByteArray}{pos:Nat}(h:nextC s pos=none):¬ pos<s.size:=by
 unfold nextC at h
 split at h
 ·rename_i h1
  have:=List.getElem?_eq_none_iff.1 h1
  rw[waF]at this
  exact Nat.not_lt.2 this
 ·rename_i b h1
  cases hb:Nat.blt b.toNat 128<;>simp[hb]at h
theorem Tj(s:ByteArray)(pos:Nat)(h:pos<s.size)(ha:(s[pos]'h).toNat<128):Utf8.decode s pos=((s[pos]'h).toNat,1):=by
 have e:s.get! (pos+0)=s[pos]'h:=by
  show s.get! pos=_
  simp[ByteArray.get!,getElem!_pos,h]
  rfl
 simp only[Utf8.decode,e,ha,wah]
theorem Tk{s:ByteArray}{pos:Nat}{c:Nat×Nat}(h:nextC s pos=some c):pos<s.size∧c.1=(Utf8.decode s pos).1∧c.2=pos+(Utf8.decode s pos).2:=by
 unfold nextC at h
 split at h
 ·simp at h
 ·rename_i b h1
  have hlt:pos<s.size:=by
   have:=(wD.1 h1).1
   rw[waF]at this
   exact this
  have hb:s[pos]'hlt=b:=by
   have:=(wD.1 h1).2
   rw[wcM]at this
   exact this
  refine⟨hlt,?_⟩
  cases hc:Nat.blt b.toNat 128 with
  |true=>
   simp only[hc,wai,wi]at h
   have hd:=Tj s pos hlt (by rw[hb];simpa[Nat.blt_eq]using hc)
   rw[hd,←h,hb]
   exact⟨rfl,rfl⟩
  |false=>
   simp only[hc,wS,wi]at h
   rw[←h]
   exact⟨rfl,rfl⟩
end
section
variable[Maps]{B lo0:Nat}{m:Match}{H:Heap}{w:World}{E:Env}
theorem Tl(hR:Rel B lo0 m H w){it rM v:Value}{H':Heap}(h:nextV H it=some (v,H'))(hi:VRel m it rM)(P:Program)(ty:TypeId):
  ∃v' w',(Instr.next rM true ty).run P w= .ok v' w'∧Good B lo0 m H w m H' w'∧VRel m v v':=by
 unfold nextV at h
 split at h
 ·rename_i r
  cases hi with
  |ptr hm=>
   rename_i p
   split at h
   ·rename_i s pos hr
    obtain⟨hb,h⟩:=cD h
    have an:H.lo≤r:=by simpa using hb
    obtain⟨h0,h1⟩:=hR.obj r p _ hm hr
    split at h
    ·rename_i hn
     simp only[wi,wk]at h
     obtain⟨rfl,rfl⟩:=h
     refine⟨.tuple #[.bool false],w,?_,.refl hR,.tuple rfl (by simpa using(LRel.one (.bool false):LRel m [.bool false] [.bool false]).2)⟩
     simp only[h0,wau,Instr.next,wB,ib h1 (fun c e f h=>by cases h),wu,Ti hn,waa,wC]
    ·rename_i c hn
     obtain⟨hlt,e1,e2⟩:=Tk hn
     simp only[eU,wi,wk]at h
     obtain⟨rfl,rfl⟩:=h
     have bG:(Instr.next (.pointer (some ⟨p.ax,p.base+0,none⟩)) true ty).run P w= .ok (.tuple #[.bool true,.int .i64 pos,.int .i32 c.1]) (dI w p.ax (.stringIter s c.2)):=by
      simp only[h0,waX,Instr.next,wB,ib h1 (fun c e f h=>by cases h),wu,hlt,wah,qo h1 (fun c e f h=>by cases h),wC,e1,e2,goInt]
     refine⟨_,_,bG,?_,.tuple rfl (by simpa using(LRel.cons (.bool true) (.cons (.int _ _) (.one (.int _ _))):LRel m [.bool true,.int .i64 pos,.int .i32 c.1] [.bool true,.int .i64 pos,.int .i32 c.1]).2)⟩
     refine Good.exchange hR hm an hr (fun c g t h=>by cases h) (o':= .po s c.2) (fun c g t h=>by cases h) (by simp[Heap.setObj,Tr.force_eq]) (by simp[Heap.setObj,Tr.force_eq]) (by simp[Heap.setObj,Tr.force_eq]) (fun j x hx=>?_) ⟨h0,?_⟩
     ·simp only[Heap.setObj,Tr.force_eq]at hx
      exact Tr.dm hx
     ·exact nG _ (w0.1 h1).1
   ·simp at h
 ·simp at h
theorem Tm(hR:Rel B lo0 m H w){it rM v:Value}{H':Heap}(h:nextG H it=some (v,H'))(hi:VRel m it rM)(P:Program)(ty:TypeId):
  ∃v' w',(Instr.next rM false ty).run P w= .ok v' w'∧Good B lo0 m H w m H' w'∧VRel m v v':=by
 unfold nextG at h
 split at h
 ·rename_i r
  cases hi with
  |ptr hm=>
   rename_i p
   split at h
   ·rename_i mm lK seen last hr
    obtain⟨hb,h⟩:=cD h
    have an:H.lo≤r:=by simpa using hb
    obtain⟨h0,q,hq,h1⟩:=hR.obj r p _ hm hr
    split at h
    ·rename_i es c pq
     obtain⟨hc,h⟩:=cD h
     obtain⟨bb,a,b,d⟩:=hR.obj mm q _ hq pq
     have hz:bb.toList.map (·.born)=es.map Prod.snd:=by
      refine waR fun i=>?_
      rw[war,war]
      cases he:es[i]? with
      |none=>
       have:bb.toList[i]? =none:=by
        rw[List.getElem?_eq_none_iff]at he⊢
        rw[waF,b];exact he
       rw[this];rfl
      |some x=>
       obtain⟨⟨k,v⟩,n⟩:=x
       obtain⟨e',g1,_,_,g4⟩:=d i k v n he
       rw[wao,g1,waE,waE,g4]
     have Lf:(!seen.toArray.isEmpty&& !bb.isEmpty&&bb.all (·.born≥last))=false:=by
      have e1:seen.toArray.isEmpty=seen.isEmpty:=by simp
      have e2:bb.isEmpty=es.isEmpty:=by
       have:=congrArg List.length hz
       rw[wO,wO]at this
       rw[←Array.isEmpty_toList]
       cases h1:bb.toList<;>cases h2:es<;>rw[h1,h2]at this<;>simp at this⊢
      have e3:bb.all (·.born≥last)=es.all fun e=>Nat.ble last e.2:=by
       rw[←Array.all_toList]
       have h1:bb.toList.all (fun x=>decide (x.born≥last))=(bb.toList.map (·.born)).all fun n=>decide (n≥last):=by rw[List.all_map];rfl
       have h2:(es.all fun e=>Nat.ble last e.2)=(es.map Prod.snd).all fun n=>decide (n≥last):=by
        rw[List.all_map]
        congr 1
        funext e
        rw[waU]
        simp[wbi]
       rw[h1,h2,hz]
      rw[e1,e2,e3,Bool.and_assoc]
      exact hc
     have lL:∀ n,qt n seen=seen.toArray.contains n:=fun n=>by
      rw[List.contains_toArray];exact Lc n seen
     have F5:=Ld (m:=m) (fun n=> !qt n seen) es bb.toList (by rw[waF];exact b) fun i e he=>by
      obtain⟨⟨k,v⟩,n⟩:=e
      obtain⟨e',g1,g2⟩:=d i k v n he
      exact⟨e',by rw[wao];exact g1,g2⟩
     have Lg:(bb.filter fun e=> !seen.toArray.contains e.born).toList=bb.toList.filter fun e=> !qt e.born seen:=by
      rw[Array.toList_filter]
      simp only[lL]
     have Lh:(bb.filter fun e=> !seen.toArray.contains e.born).toList.length=(es.filter fun e=> !qt e.2 seen).length∧∀ e,(es.filter fun e=> !qt e.2 seen)=[e]→∃ e',bb.filter (fun e=> !seen.toArray.contains e.born)= #[e']∧VRel m e.1.1 e'.key∧VRel m e.1.2 e'.val∧e'.born=e.2:=by
      rw[Lg]
      refine⟨F5.1,fun e he=>?_⟩
      obtain⟨e',g1,g2⟩:=F5.2 0 e (by rw[he];rfl)
      have bj:=F5.1
      rw[he]at bj
      have h1:(bb.toList.filter fun e=> !qt e.born seen)=[e']:=by
       obtain⟨x,hx⟩:=List.length_eq_one_iff.1 bj
       rw[hx]at g1⊢
       simp only[wQ,wi]at g1
       rw[g1]
      exact⟨e',by rw[←wbW,Lg,h1],g2⟩
     split at h
     ·rename_i hl
      simp only[wi,wk]at h
      obtain⟨rfl,rfl⟩:=h
      have h9:bb.filter (fun e=> !seen.toArray.contains e.born)= #[]:=by
       have:=Lh.1
       rw[hl]at this
       simpa using this
      refine⟨.tuple #[.bool false],w,?_,.refl hR,.tuple rfl (by simpa using(LRel.one (.bool false):LRel m [.bool false] [.bool false]).2)⟩
      simp only[h0,wau,Instr.next,wB,ib h1 (fun c e f h=>by cases h),ib a (fun c e f h=>by cases h),wu,Lf,wG,waa,h9]
      simp[choose,Sem.run,Question.forced]
     ·rename_i e hl
      obtain⟨hs,h⟩:=cn h
      have hs:e.2<lK:=wan hs
      simp only[wi,wk]at h
      obtain⟨rfl,rfl⟩:=h
      obtain⟨e',h9,g1,g2,g3⟩:=Lh.2 e hl
      have bG:(Instr.next (.pointer (some ⟨p.ax,p.base+0,none⟩)) false ty).run P w= .ok (.tuple #[.bool true,e'.key,e'.val]) (dI w p.ax (.mapIter (some q.ax) lK (seen++[e.2]).toArray c)):=by
       have F6:e'.born<lK:=by omega
       have o1:(#[e'].filter fun x=>decide (x.born<lK))= #[e']:=by simp[F6]
       have o2:(#[e'].filter fun x=>decide (x.born≥lK))= #[]:=by simp;omega
       simp only[h0,wau,Instr.next,wB,ib h1 (fun c e f h=>by cases h),ib a (fun c e f h=>by cases h),wu,Lf,wG,waa,h9,o1,o2]
       have Tn:(choose (Question.mapNext 1)).run P w= .ok 0 w:=by simp[choose,Sem.run,Question.forced]
       have bf:((if(#[e']:Array MapEntry).isEmpty=true then #[none]else #[])++Array.map some (#[e']++ #[]))= #[some e']:=by simp
       rw[bf]
       show((choose (Question.mapNext 1)).run P w).andThen _=_
       rw[Tn,wu]
       have F7:seen.toArray.push e'.born=(seen++[e.2]).toArray:=by simp[g3]
       show(do setObj p.ax (Obj.mapIter (some q.ax) lK (seen.toArray.push e'.born) c);pure (Value.tuple #[.bool true,e'.key,e'.val]):Sem Value).run P w=_
       rw[F7]
       simp only[wB,qo h1 (fun c e f h=>by cases h),wu,wC]
      refine⟨_,_,bG,?_,.tuple rfl (by simpa using(LRel.cons (.bool true) (.cons g1 (.one g2)):LRel m [.bool true,e.1.1,e.1.2] [.bool true,e'.key,e'.val]).2)⟩
      refine Good.exchange hR hm an hr (fun c g t h=>by cases h) (o':= .lJ mm lK (seen++[e.2]) c) (fun c g t h=>by cases h) (by simp[Heap.setObj,Tr.force_eq]) (by simp[Heap.setObj,Tr.force_eq]) (by simp[Heap.setObj,Tr.force_eq]) (fun j x hx=>?_) ⟨h0,q,hq,?_⟩
      ·simp only[Heap.setObj,Tr.force_eq]at hx
       exact Tr.dm hx
      ·exact nG _ (w0.1 h1).1
     ·simp at h
    ·simp at h
   ·simp at h
 ·simp at h
theorem Tp(hR:Rel B lo0 m H w){it rM v:Value}(h:entryV H it=some v)(hi:VRel m it rM)(P:Program):∃ v',(Instr.entry rM).run P w= .ok v' w∧VRel m v v':=by
 unfold entryV at h
 split at h
 ·rename_i r
  cases hi with
  |ptr hm=>
   rename_i p
   split at h
   ·rename_i mm n i hr
    simp only[we]at h
    obtain⟨es,h1,h2⟩:=h
    obtain⟨h3,h4⟩:=cn h2
    have hn:es.length=n:=by simpa using h3
    simp only[we,wi]at h4
    obtain⟨e,h5,rfl⟩:=h4
    obtain⟨a0,iC,seen,a1,a2,a3⟩:=hR.obj r p _ hm hr
    rcases Lb h1 with⟨rfl,rfl⟩|⟨q,rfl,hq⟩
    ·simp at h5
    ·obtain⟨s,b1,rfl⟩:=a2
     obtain⟨bb,c1,c2,c3⟩:=hR.obj q s _ b1 hq
     obtain⟨e',d1,d2,d3,d4⟩:=c3 i e.1 e.2 (by rw[h5])
     have F8:bb.find? (·.born==i)=some e':=by
      rw[←Array.find?_toList,List.find?_eq_some_iff_getElem]
      have Tq:=(w0.1 d1).1
      refine⟨by simp[d4],i,by simpa using Tq,by simpa using(w0.1 d1).2,fun j hj=>?_⟩
      have jB:j<es.length:=by omega
      obtain⟨oE,f1,_,_,f4⟩:=c3 j (es[j]'jB).1 (es[j]'jB).2 (by rw[wj jB])
      have f2:=(w0.1 f1).2
      simp only[wcM,f2,f4]
      simp;omega
     refine⟨.tuple #[e'.key,e'.val],?_,VRel.uP (.cons d2 (.one d3))⟩
     have Ts:(bb.size !=n)=false:=by rw[c2,hn];simp
     simp only[Instr.entry,a0,waX,wB,ib a1 (fun c e f h=>by cases h),wu,a3,ib c1 (fun c e f h=>by cases h),Ts,wG,waa,F8,wC]
   ·rename_i mm lK seen last hr
    split at h
    ·rename_i es c pq
     have h8:=cn h
     clear h
     obtain⟨hc,h8⟩:=h8
     have hc:c=last:=by simpa using hc
     subst hc
     simp only[we,wi]at h8
     obtain⟨s,h5,e,h6,rfl⟩:=h8
     obtain⟨a0,q,a1,a2⟩:=hR.obj r p _ hm hr
     obtain⟨bb,c1,c2,c3⟩:=hR.obj mm q _ a1 pq
     obtain⟨e',d1,d2,d3⟩:=Le es bb.toList (by rw[waF];exact c2) (fun i e he=>by
      obtain⟨⟨k,v⟩,n⟩:=e
      obtain⟨e',g1,g2⟩:=c3 i k v n he
      exact⟨e',by rw[wao];exact g1,g2⟩) h6
     have F8:bb.find? (·.born==s)=some e':=by rw[←Array.find?_toList];exact d1
     have Tt:seen.toArray.back? =some s:=by simpa using h5
     refine⟨.tuple #[e'.key,e'.val],?_,VRel.uP (.cons d2 (.one d3))⟩
     simp only[Instr.entry,a0,waX,wB,ib a2 (fun c e f h=>by cases h),wu,Tt,ib c1 (fun c e f h=>by cases h),bne_self_eq_false,wG,waa,F8,wC]
    ·simp at h
   ·simp at h
 ·simp at h
end
variable[Maps]{B lo0:Nat}{m:Match}{H:Heap}{w:World}{E:Env}
theorem iB.val{v v':Value}(hR:Rel B lo0 m H w)(hv:VRel m v v'):iB B lo0 E m H w v H ((pure (.value v'):Sem Next).run E.P w):=by
 simp only[wC]
 exact⟨m,.refl hR,hv⟩
theorem iB.next{r:Result Next}{v v':Value}{m':Match}{H':Heap}{w':World}(h:r= .ok (.value v') w')(hg:Good B lo0 m H w m' H' w')(hv:VRel m' v v'):iB B lo0 E m H w v H' r:=by
 subst h
 exact⟨m',hg,hv⟩
theorem Uu(hE:EnvOk E){x x' rv:Value}{name:String}{f:FuncId}(h:methodOf E x name=some (f,rv))(hx:VRel m x x'):
  ∃t v,x'= .iface t v∧∀ n w,(nilAhead (n+1) t v name).run E.P w= .ok (some false) w:=by
 unfold methodOf at h
 split at h
 ·rename_i t v
  cases hx with
  |iface _ hv=>
   rename_i v'
   simp only[we]at h
   obtain⟨info,h1,md,h2,h3⟩:=h
   split at h3
   ·rename_i f₀ pr hp hf
    simp only[we]at h3
    obtain⟨j,h4,h5⟩:=h3
    refine⟨t,v',rfl,fun n w=>?_⟩
    have Am:(typeInfo t).run E.P w= .ok info w:=run_typeInfo w h1
    have hu:=hE.desc h4 rfl w
    cases pr with
    |true=>simp only[nilAhead,wB,Am,wu,h2,hp,followBlind,wC,hf]
    |false=>
     have F3:∀ e,j.desc≠ .pointer e:=fun e hd=>by rw[hd]at h5;simp at h5
     cases hd:j.desc<;>first
      |(exact absurd hd (F3 _))
      |(rw[hd]at hu;simp only[nilAhead,wB,Am,wu,h2,hp,followBlind,wC,hf,hu])
   ·simp at h3
 ·simp at h
theorem nilCheck_sim(hE:EnvOk E)(hR:Rel B lo0 m H w){x:Value}{v:Value}{H':Heap}
  (h:(match x with
  | .pointer (some _)=>some (x,H)
  | .func (.func _) _ _=>some (x,H)
  | .func (.yield _) _ _=>some (x,H)
  | .func (.via ..) _ _=>some (x,H)
  | .func (.method name) first _=>(match first.toList with
    |y::_=>(methodOf E y name).bind fun _=>some (x,H)
    |[]=>none)
  | .iface _ _=>some (x,H)
  |_=>none)=some (v,H')) {x':Value} (hx:VRel m x x') (o:Oper) (y:Operand) (ho:o.op= .nilCheck y) (a:Act) (hy:a.eval y=x'):iB B lo0 E m H w v H' ((execOp a.eval o).run E.P w):=by
 simp only[execOp,ho,hy]
 cases hx with
 |ptr hm=>simp only[wi,wk]at h;obtain⟨rfl,rfl⟩:=h;exact .val hR (.ptr hm)
 |iface t hv=>simp only[wi,wk]at h;obtain⟨rfl,rfl⟩:=h;exact .val hR (.iface t hv)
 |func hf ha hb ra rb=>
  rename_i f f' p p' q q'
  cases f with
  |func g=>
   simp only[FnRel]at hf
   subst hf
   simp only[wi,wk]at h;obtain⟨rfl,rfl⟩:=h;exact .val hR (.func rfl ha hb ra rb)
  |yield l=>
   obtain⟨q,h1,rfl⟩:=hf
   simp only[wi,wk]at h;obtain⟨rfl,rfl⟩:=h;exact .val hR (.func ⟨q,h1,rfl⟩ ha hb ra rb)
  |via t path g p=>
   simp only[FnRel]at hf
   subst hf
   simp only[wi,wk]at h;obtain⟨rfl,rfl⟩:=h;exact .val hR (.func rfl ha hb ra rb)
  |method name=>
   simp only[FnRel]at hf
   subst hf
   simp only at h
   cases hp:p.toList with
   |nil=>rw[hp]at h;simp at h
   |cons x l=>
    rw[hp]at h
    simp only[we,wi,wk]at h
    obtain⟨mm,h1,rfl,rfl⟩:=h
    have hl:LRel m p.toList p'.toList:=⟨ha,ra⟩
    rw[hp]at hl
    obtain⟨x',r',e1,e2,e3⟩:=hl.oC
    obtain⟨t,u,rfl,f2⟩:=Uu hE (f:=mm.1) (rv:=mm.2) h1 e2
    have h0:p'[0]? =some (.iface t u):=by rw[←wao,e1];rfl
    have hP:(program:Sem Program).run E.P w= .ok E.P w:=rfl
    simp only[h0,wB,hP,wu,show E.P.types.size+Made.depth=(E.P.types.size+99)+1 from rfl,f2,bne_self_eq_false,wG,waa]
    exact .val hR (.func (show FnRel m (.method name) (.method name)from rfl) ha hb ra rb)
  |_=>simp at h
 |_=>simp at h
theorem LR(hE:EnvOk E){call:cT}(hc:qp B lo0 E call)(hR:Rel B lo0 m H w){T:Tr Value}{a:Act}(ht:fk m T a.tmps){o:Oper}{v:Value}{H':Heap}(h:exOp E call T o H=some (v,H')):
  iB B lo0 E m H w v H' ((execOp a.eval o).run E.P w):=by
 unfold exOp at h
 cases ho:o.op with
 |move x=>
  simp only[ho,we,wi,wk]at h
  obtain⟨u,h1,rfl,rfl⟩:=h
  simp only[execOp,ho]
  exact .val hR (cE ht h1)
 |assign x=>
  simp only[ho,we,wi,wk]at h
  obtain⟨u,h1,rfl,rfl⟩:=h
  simp only[execOp,ho]
  exact .val hR (cE ht h1)
 |pick c x y=>
  simp only[ho,we]at h
  obtain⟨u,h1,h2⟩:=h
  have hu:=cE ht h1
  simp only[execOp,ho]
  generalize a.eval c=z at hu
  split at h2
  ·cases hu
   simp only[we,wi,wk]at h2
   obtain⟨u,h3,rfl,rfl⟩:=h2
   simp only[asBool,wB,wC,wu,wah]
   exact⟨m,.refl hR,cE ht h3⟩
  ·cases hu
   simp only[we,wi,wk]at h2
   obtain⟨u,h3,rfl,rfl⟩:=h2
   simp only[asBool,wB,wC,wu,wG,waa]
   exact⟨m,.refl hR,cE ht h3⟩
  ·simp at h2
 |alloc t=>
  simp only[ho,we,wi,wk]at h
  obtain⟨i,h1,z,h2,rfl,rfl⟩:=h
  simp only[execOp,ho]
  obtain⟨v',w',m',h3,h4,h5⟩:=Uv hE hR h1 h2
  exact .made h3 h4 h5
 |box t x=>
  simp only[ho,we,wi,wk]at h
  obtain⟨u,h1,rfl,rfl⟩:=h
  simp only[execOp,ho]
  obtain⟨v',w',m',h3,h4,h5⟩:=Uw hR (t:=t) (cE ht h1) E.P
  exact .made h3 h4 h5
 |build t parts=>
  simp only[ho,we,wi,wk]at h
  obtain⟨u,h1,rfl,rfl⟩:=h
  simp only[execOp,ho]
  obtain⟨v',h3,h5⟩:=Ux hE ht h1 w
  exact .still hR h3 h5
 |buildSlice t len parts=>
  simp only[ho,we]at h
  obtain⟨i,h1,h⟩:=h
  split at h
  ·rename_i e hd
   simp only[we]at h
   obtain⟨j,h2,z,hz,h⟩:=h
   cases hb:(!Nat.beq (cg z).length j.size|| !Nat.ble (len*j.size) 10000000||Nat.beq j.size 0)with
   |true=>rw[hb]at h;simp at h
   |false=>
    rw[hb]at h
    simp only[wS,we,wi,wk]at h
    obtain⟨ps,h6,l,h7,rfl,rfl⟩:=h
    simp only[wbM,waM,wbp,wbi]at hb
    have h5:j.size≠0:=fun h0=>by have:=hb.2;rw[h0]at this;simp at this
    simp only[execOp,ho]
    obtain⟨v',w',m',h3,h4,h8⟩:=Uy hE hR ht h1 hd h2 hz hb.1.1 hb.1.2 h5 h6 h7
    exact .made h3 h4 h8
  ·simp at h
 |load t x=>
  simp only[ho,we,wi,wk]at h
  obtain⟨u,h1,u2,h2,rfl,rfl⟩:=h
  simp only[execOp,ho]
  obtain⟨v',h3,h5⟩:=L4 hE hR h2 (cE ht h1)
  exact .still hR h3 h5
 |store t x y=>
  simp only[ho,we,wi,wk]at h
  obtain⟨u,h1,u2,h2,H2,h3,rfl,rfl⟩:=h
  simp only[execOp,ho]
  obtain⟨w',h4,h5⟩:=Uz hE hR h3 (cE ht h1) (cE ht h2)
  exact .done h4 h5
 |nilCheck x=>
  simp only[ho,we]at h
  obtain⟨u,h1,h⟩:=h
  exact nilCheck_sim hE hR h (cE ht h1) o x ho a rfl
 |binOp op t x y ty=>
  simp only[ho,we,wi,wk]at h
  obtain⟨u,h1,u2,h2,u3,h3,rfl,rfl⟩:=h
  simp only[execOp,ho]
  obtain⟨h4,h5⟩:=UA hE h3 (cE ht h1) (cE ht h2) w
  exact .still hR h4 h5
 |unOp op t x=>
  simp only[ho,we,wi,wk]at h
  obtain⟨u,h1,u2,h2,rfl,rfl⟩:=h
  simp only[execOp,ho]
  obtain⟨h4,h5⟩:=UB h2 m (cE ht h1)
  rw[h4]
  exact .still hR (UC h2 w E.P) h5
 |convert s d x=>
  simp only[ho,we,wi,wk]at h
  obtain⟨u,h1,u2,h2,rfl,rfl⟩:=h
  simp only[execOp,ho]
  unfold qu at h2
  cases hb:Nat.beq s BT with
  |true=>
   rw[hb]at h2
   obtain⟨v',h4,h5⟩:=Td hE hR h2 (cE ht h1)
   exact .still hR h4 h5
  |false=>
   rw[hb]at h2
   obtain⟨v',h4,h5⟩:=Tc hE h2 (cE ht h1) w
   exact .still hR h4 h5
 |makeInterface t x=>
  simp only[ho,we]at h
  obtain⟨u,h1,i,h2,h⟩:=h
  simp only[execOp,ho]
  have hd:=hE.desc h2 rfl w
  have hx:=cE ht h1
  have hv:v= .iface t u∧H'=H:=by cases hi:i.desc<;>rw[hi]at h<;>simp only[reduceCtorEq,wi,wk]at h<;>exact⟨h.1.symm,h.2.symm⟩
  obtain⟨rfl,rfl⟩:=hv
  have bG:(Instr.makeInterface t (a.eval x)).run E.P w= .ok (.iface t (a.eval x)) w:=by
   simp only[Instr.makeInterface,wB,hd,wu]
   cases hi:i.desc<;>first
    |rfl
    |(rw[hi]at h;simp only[reduceCtorEq]at h)
  exact .still hR bG (.iface t hx)
 |makeFunc fn first captured=>
  simp only[execOp,ho]
  cases fn with
  |yield l=>simp[ho]at h
  |_=>
   simp only[ho,we,wi,wk]at h
   obtain⟨fs,h1,cs,h2,rfl,rfl⟩:=h
   have r1:=Dq ht h1
   have r2:=Dq ht h2
   exact .still hR (v':= .func _ (first.map a.eval) (captured.map a.eval)) rfl (.func rfl (by simpa using r1.1) (by simpa using r2.1) (by simpa using r1.2) (by simpa using r2.2))
 |makeMap t r=>
  cases r with
  |some x=>simp[ho]at h
  |none=>
   simp only[ho,wi,wk]at h
   obtain⟨rfl,rfl⟩:=h
   simp only[execOp,ho]
   refine .made (v':= .map (some w.heap.size)) (w':=w.alloc (.map #[] 0)) (m':=ez m H.next ⟨w.heap.size,0,0,true,0⟩) ?_ (Good.added hR (.map #[] 0) _ ⟨w.heap.size,0,0,true,0⟩ rfl rfl ⟨rfl,rfl⟩ ⟨#[],?_,rfl,fun i k v h=>by simp at h⟩ (fun c g t h=>by cases h)) (.map (jx _ _ _))
   ·simp only[Instr.makeMap,wcH,wB,wC,wbN,wu]
    rfl
   ·show(w.heap.push _)[w.heap.size]? =_
    simp
 |makeSlice t l c=>
  simp only[ho,we]at h
  obtain⟨u,h1,u2,h2,h3⟩:=h
  simp only[execOp,ho]
  obtain⟨⟨k1,n1,rfl⟩,k2,n2,rfl⟩:=Tb h3
  obtain⟨v',w',m',h4,h5,h6⟩:=UD hE hR h3
  have e1:=cE ht h1
  have e2:=cE ht h2
  generalize a.eval l=x1 at e1
  generalize a.eval c=x2 at e2
  cases e1
  cases e2
  exact .made h4 h5 h6
 |slice t x lo hi mx=>
  simp only[ho,we,wi,wk]at h
  obtain⟨u,h1,u2,h2,u3,h3,u4,h4,u5,h5,rfl,rfl⟩:=h
  simp only[execOp,ho]
  obtain⟨i1,i2,i3⟩:=Ta h5
  obtain⟨v',h6,h7⟩:=UE hE hR h5 (cE ht h1)
  rw[F4 ht h2 i1,F4 ht h3 i2,F4 ht h4 i3]
  exact .still hR h6 h7
 |fieldAddr s x f=>
  simp only[ho,we,wi,wk]at h
  obtain⟨u,h1,u2,h2,rfl,rfl⟩:=h
  simp only[execOp,ho]
  obtain⟨v',h4,h5⟩:=UF hE h2 (cE ht h1) w
  exact .still hR h4 h5
 |field t x f=>
  simp only[ho,we,wi,wk]at h
  obtain⟨u,h1,u2,h2,rfl,rfl⟩:=h
  simp only[execOp,ho]
  obtain⟨v',h4,h5⟩:=UG hE h2 (cE ht h1) w
  exact .still hR h4 h5
 |indexAddr t x ix=>
  simp only[ho,we,wi,wk]at h
  obtain⟨u,h1,u3,h3,u2,h2,rfl,rfl⟩:=h
  simp only[execOp,ho]
  obtain⟨v',h4,h5⟩:=UH hE h2 (cE ht h1) (cE ht h3) w
  exact .still hR h4 h5
 |index t x ix=>
  simp only[ho,we,wi,wk]at h
  obtain⟨u,h1,u3,h3,u2,h2,rfl,rfl⟩:=h
  simp only[execOp,ho]
  obtain⟨v',h4,h5⟩:=UI hE h2 (cE ht h1) (cE ht h3) w
  exact .still hR h4 h5
 |lookup t x i ok=>
  simp only[ho,we,wi,wk]at h
  obtain⟨u,h1,u3,h3,u2,h2,rfl,rfl⟩:=h
  simp only[execOp,ho]
  obtain⟨v',h4,h5⟩:=UJ hE hR h2 (cE ht h1) (cE ht h3)
  exact .still hR h4 h5
 |mapUpdate t x k y=>
  simp only[ho,we,wi,wk]at h
  obtain⟨u,h1,u2,h2,u3,h3,H2,h4,rfl,rfl⟩:=h
  simp only[execOp,ho]
  obtain⟨w',h5,h6⟩:=UK hE hR h4 (cE ht h1) (cE ht h2) (cE ht h3)
  exact .done h5 h6
 |range t x=>
  simp only[ho,we]at h
  obtain⟨u,h1,i,h2,ob,h,hv⟩:=h
  simp only[wi,wk]at hv
  obtain⟨rfl,rfl⟩:=hv
  unfold rangeO at h
  split at h
  ·rename_i k e mm hd
   split at h
   ·rename_i q hq
    simp only[wi]at h
    subst h
    simp only[execOp,ho]
    obtain⟨v',w',m',h4,h5,h6⟩:=Tg hE hR h2 hd hq (cE ht h1)
    exact .made h4 h5 h6
   simp only[we,wi]at h
   obtain⟨es,h3,rfl⟩:=h
   simp only[execOp,ho]
   obtain⟨v',w',m',h4,h5,h6⟩:=Te hE hR h2 hd h3 (cE ht h1)
   exact .made h4 h5 h6
  ·rename_i s hd
   simp only[wi]at h
   subst h
   simp only[execOp,ho]
   obtain⟨v',w',m',h4,h5,h6⟩:=Th hE hR h2 hd (cE ht h1)
   exact .made h4 h5 h6
  ·simp at h
 |next it str=>
  cases str with
  |false=>
   simp only[ho,we]at h
   obtain⟨u,h1,h2⟩:=h
   simp only[execOp,ho]
   obtain⟨v',w',h4,h5,h6⟩:=Tm hR h2 (cE ht h1) E.P o.type
   exact .made h4 h5 h6
  |true=>
   simp only[ho,we]at h
   obtain⟨u,h1,h2⟩:=h
   simp only[execOp,ho]
   obtain⟨v',w',h4,h5,h6⟩:=Tl hR h2 (cE ht h1) E.P o.type
   exact .made h4 h5 h6
 |entry it=>
  simp only[ho,we,wi,wk]at h
  obtain⟨u,h1,u2,h2,rfl,rfl⟩:=h
  simp only[execOp,ho]
  obtain⟨v',h4,h5⟩:=Tp hR h2 (cE ht h1) E.P
  exact .still hR h4 h5
 |extract t ix=>
  simp only[ho,we]at h
  obtain⟨u,h1,h⟩:=h
  have hu:=cE ht h1
  simp only[execOp,ho]
  generalize a.eval t=x' at hu
  split at h
  ·cases hu with
   |tuple ha ra=>
    rename_i fe
    simp only[we,wi,wk]at h
    obtain⟨u2,h2,rfl,rfl⟩:=h
    obtain⟨v',h3,h4⟩:=LRel.get ⟨ha,ra⟩ h2
    refine .still hR (v':=v') ?_ h4
    have h5:fe[ix]? =some v':=by simpa using h3
    simp only[Instr.extract,h5,wC]
  ·simp at h
 |call c=>
  simp only[ho,we]at h
  obtain⟨args,h1,h⟩:=h
  have hargs:LRel m args (c.args.map a.eval).toList:=by simpa using Dq ht h1
  simp only[execOp,ho]
  cases lq:c.callee with
  |builtin b=>
   simp only[lq]at h
   obtain⟨v',w',m',h3,h4,h5⟩:=UL hE hR hargs h o.type (c.args.map fun| .const _=>true|_=>false)
   simp only[resolve,lq,wB,wC,wu,invoke]
   exact iB.next h3 h4 h5
  |value f=>
   simp only[lq,we]at h
   obtain⟨fv,h2,h3⟩:=h
   have:=hc fv args H v H' h3 m w _ _ (cE ht h2) hargs hR
   simpa only[resolve,lq]using this
  |invoke x name=>
   simp only[lq,we]at h
   obtain⟨xv,h2,mm,h3,h4⟩:=h
   obtain⟨t,u,tG,e1,e2,e3⟩:=K0 hE (f:=mm.1) (rv:=mm.2) h3 (cE ht h2)
   have:=hc _ _ H v H' h4 m w (.func (.func mm.1) #[] #[]) (#[tG]++c.args.map a.eval) (.func rfl rfl rfl (fun i v v' h=>by simp at h) (fun i v v' h=>by simp at h)) (by simpa using LRel.cons e3 hargs) hR
   have hP:(program:Sem Program).run E.P w= .ok E.P w:=rfl
   simp only[resolve,lq,wB,wC,wu,invoke,e1]
   simp only[Deferred.ofValue,wB,wC,wu,invoke]at this
   have he:(#[Value.iface t u]++c.args.map a.eval)[0]? =some (.iface t u):=by
    rw[wcb (by simp)];rfl
   have hx:(#[Value.iface t u]++c.args.map a.eval).extract 1 (#[Value.iface t u]++c.args.map a.eval).size=c.args.map a.eval:=by
    apply wcJ
    simp[wZ]
   simp only[he,hx,callMethod,wB,hP,wu,show E.P.types.size+Made.depth=(E.P.types.size+99)+1 from rfl,e2]
   simpa using this
 |_=>simp[ho]at h
end Go.AM
namespace Go.AM
section
variable[Maps]{B lo0:Nat}{m:Match}{H:Heap}{w:World}{E:Env}
end
section
variable{B lo0:Nat}{m:Match}{w:World}{P:Program}
theorem run_program(P:Program)(w:World):(program:Sem Program).run P w= .ok P w:=rfl
end
section
variable[Maps]{B lo0:Nat}{m:Match}{H:Heap}{w:World}{E:Env}
def mT(m:Match):List Nat→List Deferred→Prop
 |[],[]=>True
 |r::rs,d::ds=>(∃p,m r=some p∧d.target= .collected p.ax)∧mT m rs ds
 |_,_=>False
end
section
variable{B lo0:Nat}{m:Match}{w:World}{P:Program}
theorem mT.mono{m m':Match}(h:m.le m'):∀ {rs:List Nat} {ds:List Deferred},mT m rs ds→mT m' rs ds
 |[],[],_=>trivial
 |_::_,_::_,⟨⟨p,h1,h2⟩,h3⟩=>⟨⟨p,h _ _ h1,h2⟩,h3.mono h⟩
end
section
variable[Maps]{B lo0:Nat}{m:Match}{H:Heap}{w:World}{E:Env}
structure gB(m:Match)(fr:Fr)(a:Act)(ro:Option Nat):Prop where
 tmps:fk m fr.T a.tmps
 size:a.tmps.size=fr.size
 marks:mT m fr.marks a.defers
 round:fr.round=none→ro=none
def Ex.to:Ex→Exit
 | .normal=> .normal
 | .exit id=> .exit id
 | .ret=> .ret
def fU(B lo0:Nat)(m:Match)(H:Heap)(w:World)(c:Code)(a:Act)(ro:Option Nat)(ex:Ex)(bl:Fr)(H':Heap):Exit→Act→World→Prop:=
 fun e a' w'=>e=ex.to∧∃ m',Good B lo0 m H w m' H' w'∧gB m' bl a' ro∧∀ t,t∉writesOf c→a'.tmps[t]? =a.tmps[t]?
def oD(E:Env)(run:Code→Fr→Heap→Option (Ex×Fr×Heap)):Prop:=∀ c fr H ex bl H',run c fr H=some (ex,bl,H')→∀ B lo0 m a w ro,Rel B lo0 m H w→gB m fr a ro→
 c.wpIn (fg ro) 0 E.P (fU B lo0 m H w c a ro ex bl H') a w
end
section
variable{B lo0:Nat}{m:Match}{w:World}{P:Program}
theorem uY{a:Act}{d:Tmp}{v:Value}:(a.put (some d) v).tmps=a.tmps.setIfInBounds d v:=rfl
end
section
variable[Maps]{B lo0:Nat}{m:Match}{H:Heap}{w:World}{E:Env}
theorem Da{m:Match}{T T':Tr Value}{a:Act}{size:Nat}{dst:Option Tmp}{v v':Value}(h:gQ size T dst v=some T')(ht:fk m T a.tmps)(hs:a.tmps.size=size)(hv:VRel m v v'):
  fk m T' (a.put dst v').tmps∧(a.put dst v').tmps.size=size∧(a.put dst v').defers=a.defers∧∀ t,dst≠some t→(a.put dst v').tmps[t]? =a.tmps[t]? :=by
 cases dst with
 |none=>simp only[gQ,wi]at h;subst h;exact⟨ht,hs,rfl,fun _ _=>rfl⟩
 |some d=>
  simp only[gQ]at h
  obtain⟨h1,h2⟩:=cn h
  simp only[Tr.force_eq,wi]at h2
  subst h2
  have hd:Nat.lt d size:=wan h1
  refine⟨fun t u hu=>?_,by rw[uY];simpa using hs,rfl,fun t jh=>?_⟩
  ·rw[uY]
   rcases Tr.dm hu with⟨rfl,rfl⟩|⟨h3,h4⟩
   ·exact⟨v',by rw[wb7 (by rw[hs];exact hd)],hv⟩
   ·obtain⟨u',h5,h6⟩:=ht t u h4
    exact⟨u',by rw[wa8 (fun h=>h3 h.symm)];exact h5,h6⟩
  ·rw[uY,wa8 (fun h=>jh (by rw[h]))]
theorem LI{m:Match}{T:Tr Value}{a:Act}{ops:Array Oper}{o:Oper}{b:Bool}(h:wantedA T ops.toList o=some b)(ht:fk m T a.tmps):Region.wanted o (yielded ops a.tmps)=b:=by
 unfold wantedA at h
 unfold Region.wanted
 cases hg:o.guard with
 |none=>rw[hg]at h;simpa using h
 |some jw=>
  obtain⟨j,want⟩:=jw
  rw[hg]at h
  simp only at h⊢
  cases hd:(ops.toList[j]?).bind (·.dst)with
  |none=>rw[hd]at h;simp at h
  |some d=>
   rw[hd]at h
   have iZ:(ops[j]?).bind (·.dst)=some d:=by simpa using hd
   simp only at h
   cases hT:T.get d with
   |none=>rw[hT]at h;simp at h
   |some v=>
    rw[hT]at h
    obtain⟨v',h1,h2⟩:=ht d v hT
    simp only[yielded,iZ,wo,h1]
    cases h2<;>simp only[reduceCtorEq,wi]at h<;>subst h
    ·rename_i x;cases x<;>cases want<;>rfl
    ·rfl
end
section
variable{B lo0:Nat}{m:Match}{w:World}{P:Program}
theorem yh{ro:Option Nat}{o:Oper}{a:Act}{P:Program}{w:World}:∀ f,o.about P w a.eval=some f→(fg ro).fn f:=fun _ _=>trivial
end
section
variable[Maps]{B lo0:Nat}{m:Match}{H:Heap}{w:World}{E:Env}
theorem GA{call:cT}{T:Tr Value}{o:Oper}{r:Value×Heap}(h:exOp E call T o H=some r)(c:Call):o.op≠ .defer c:=fun hc=>by
 unfold exOp at h
 simp[hc]at h
theorem Dp(hE:EnvOk E){call:cT}(hc:qp B lo0 E call)(hR:Rel B lo0 m H w){T:Tr Value}{a:Act}(ht:fk m T a.tmps){o:Oper}{v:Value}{H':Heap}(h:exOp E call T o H=some (v,H'))
  {next:Act→World→Prop} {Q:Exit→Act→World→Prop} {ro:Option Nat} (hn:∀ v' w' m',Good B lo0 m H w m' H' w'→VRel m' v v'→next (a.put o.dst v') w'):o.wpIn (fg ro) 0 E.P a w next Q:=by
 refine⟨yh,?_⟩
 rw[Oper.semAt_eq _ _ _ (GA h)]
 exact UpTo.uponIn (LR hE hc hR ht h) fun v' w' ⟨m',h1,h2⟩=>hn v' w' m' h1 h2
theorem DF(hE:EnvOk E){call:cT}(hc:qp B lo0 E call){ops:Array Oper}{Q:Exit→Act→World→Prop}{ro:Option Nat}{size:Nat}:∀ (rest:List Oper) (k:Nat),(∀j,rest[j]? =ops[k+j]?)→
  ∀(T:Tr Value) (H:Heap) (T':Tr Value) (H':Heap) (a:Act) (w:World) (m:Match),exOps E call ops.toList size rest T H=some (T',H')→Rel B lo0 m H w→fk m T a.tmps→a.tmps.size=size→
  (∀a' w' m',Good B lo0 m H w m' H' w'→fk m' T' a'.tmps→a'.tmps.size=size→a'.defers=a.defers→(∀t,(∀o∈rest,o.dst≠some t)→a'.tmps[t]? =a.tmps[t]?)→Q .normal a' w')→
  wpOpsIn (fg ro) 0 E.P ops Q (List.range' k rest.length) a w
 |[],k,_,T,H,T',H',a,w,m,h,hR,ht,hs,hq=>by
  simp only[exOps,wi,wk]at h
  obtain⟨rfl,rfl⟩:=h
  exact hq a w m (.refl hR) ht hs rfl fun _ _=>rfl
 |o::rest,k,hk,T,H,T',H',a,w,m,h,hR,ht,hs,hq=>by
  have ho:ops[k]? =some o:=by simpa using(hk 0).symm
  have gR:∀ j,rest[j]? =ops[k+1+j]? :=fun j=>by rw[show k+1+j=k+(j+1) by omega,←hk (j+1)];simp
  simp only[wY,List.range'_succ,wpOpsIn,ho]
  simp only[exOps,ub]at h
  cases hw:wantedA T ops.toList o with
  |none=>rw[hw]at h;simp at h
  |some b=>
   rw[hw]at h
   rw[LI hw ht]
   cases b with
   |true=>
    simp only[we]at h
    obtain⟨r,h1,T1,h2,h3⟩:=h
    simp only[wah]
    refine Dp hE hc hR ht h1 fun v' w' m' hg hv=>?_
    obtain⟨p1,p2,p3,p4⟩:=Da (a:=a) h2 (ht.mono hg.le) hs hv
    refine DF hE hc rest (k+1) gR T1 r.2 T' H' _ w' m' h3 hg.rel p1 p2 fun a' fD rK ic q1 q2 q3 q4=>?_
    exact hq a' fD rK (hg.trans ic) q1 q2 (q3.trans p3) fun t oh=>(q4 t fun o' bJ=>oh o' (wM _ bJ)).trans (p4 t (oh o (wW ..)))
   |false=>
    simp only[we]at h
    obtain⟨T1,h2,h3⟩:=h
    simp only[wG,waa]
    refine⟨yh,?_⟩
    obtain⟨p1,p2,p3,p4⟩:=Da (a:=a) h2 ht hs (F2 m)
    refine DF hE hc rest (k+1) gR T1 H T' H' _ w m h3 hR p1 p2 fun a' fD rK ic q1 q2 q3 q4=>?_
    exact hq a' fD rK ic q1 q2 (q3.trans p3) fun t oh=>(q4 t fun o' bJ=>oh o' (wM _ bJ)).trans (p4 t (oh o (wW ..)))
theorem Wl(hE:EnvOk E){call:cT}(hc:qp B lo0 E call){id:Nat}{ops:Array Oper}{fr:Fr}{T':Tr Value}{H':Heap}{a:Act}{ro:Option Nat}(hR:Rel B lo0 m H w)(hf:gB m fr a ro)
  (h:exOps E call ops.toList fr.size ops.toList fr.T H=some (T',H')):
  (Code.region id ops false).wpIn (fg ro) 0 E.P (fU B lo0 m H w (.region id ops false) a ro .normal {T:=T',size:=fr.size,marks:=fr.marks,round:=fr.round} H') a w:=by
 apply wpIn_region
 rw[wcL,show ops.size=ops.toList.length by simp]
 refine DF hE hc ops.toList 0 (fun j=>by simp) fr.T H T' H' a w m h hR hf.tmps hf.size fun a' w' m' hg q1 q2 q3 q4=>?_
 refine⟨rfl,m',hg,⟨q1,q2,by rw[q3];exact hf.marks.mono hg.le,hf.round⟩,fun t ht=>q4 t fun o ho hd=>ht ?_⟩
 simp only[writesOf,wcz]
 exact⟨o,ho,hd⟩
theorem Ww(hE:EnvOk E)(hR:Rel B lo0 m H w){t:TypeId}{x x' v:Value}(h:loadV E H t x=some v)(hx:VRel m x x'):∃ v',(do loadVar t (←asAddr x'):Sem Value).run E.P w= .ok v' w∧VRel m v v':=by
 obtain⟨v',h1,h2⟩:=L4 hE hR h hx
 refine⟨v',?_,h2⟩
 unfold loadV at h
 split at h
 ·cases hx with
  |ptr hm=>simpa only[Instr.loadAt,Instr.sureAddr,asAddr,wB,wC,wu]using h1
 ·simp at h
theorem resultsV_run(hE:EnvOk E)(hR:Rel B lo0 m H w){T:Tr Value}{tmps:Array Value}(ht:fk m T tmps):∀ {l:List ResultVar} {vs:List Value},resultsV E H T l=some vs→
  ∃fe,(l.mapM (m:=Sem) fun
   | .tmp t=>pure (tmps.getD t undef)
   | .cell a t=>do loadVar t (←asAddr (tmps.getD a undef))).run E.P w= .ok fe w∧LRel m vs fe
 |[],vs,h=>by
  simp only[resultsV,wi]at h
  subst h
  exact⟨[],rfl,.nil m⟩
 | .tmp t::l,vs,h=>by
   simp only[resultsV,we,wi]at h
   obtain⟨v,h1,r,h2,rfl⟩:=h
   obtain⟨fe,h3,h4⟩:=resultsV_run hE hR ht h2
   obtain⟨v',h5,h6⟩:=ht t v h1
   refine⟨v'::fe,?_,.cons h6 h4⟩
   have:tmps.getD t undef=v':=by simp[wax,h5]
   simp only[List.mapM_cons,wB,wC,wu,this,h3]
 | .cell x t::l,vs,h=>by
   simp only[resultsV,we,wi]at h
   obtain⟨xv,h1,v,h2,r,h3,rfl⟩:=h
   obtain⟨fe,h4,h5⟩:=resultsV_run hE hR ht h3
   obtain⟨x',h6,h7⟩:=ht x xv h1
   obtain⟨v',h8,h9⟩:=Ww hE hR h2 h7
   refine⟨v'::fe,?_,.cons h9 h5⟩
   have:tmps.getD x undef=x':=by simp[wax,h6]
   simp only[wB]at h8
   simp only[List.mapM_cons,wB,this,h8,wu,h4,wC]
theorem FW(hE:EnvOk E)(hR:Rel B lo0 m H w){T:Tr Value}{tmps:Array Value}(ht:fk m T tmps){fn:Func}{vs:List Value}(h:resultsV E H T fn.results.toList=some vs):
  ∃v',(results fn tmps).run E.P w= .ok v' w∧VRel m (jA vs) v':=by
 obtain⟨fe,h1,h2⟩:=resultsV_run hE hR ht h
 have bG:(results fn tmps).run E.P w= .ok (if h:fe.toArray.size=1 then fe.toArray[0]else .tuple fe.toArray) w:=by
  unfold results
  rw[Array.mapM_eq_mapM_toList]
  simp only[wB,map_eq_pure_bind,wC]
  erw [h1]
  rfl
 refine⟨_,bG,?_⟩
 match vs,fe,h2 with
 |[],fe,h2=>rw[h2.mG];exact .uP (.nil m)
 |[v],fe,h2=>
  obtain⟨v',r,rfl,h3,h4⟩:=h2.oC
  rw[h4.mG]
  exact h3
 |v₁::v₂::l,fe,h2=>
  have:¬ fe.toArray.size=1:=by
   have:=h2.1
   simp at this ⊢;omega
  rw[dif_neg this]
  exact .uP h2
theorem Wx(hR:Rel B lo0 m H w){r:Nat}{p:dO}{o:AObj}{O:Obj}{H':Heap}(hm:m r=some p)(hr:H.lo≤r)(ho:H.objs.get r=some o)(eA:∀ c g t,o≠ .row c g t)
  (hn:H'.next=H.next) (hl:H'.lo=H.lo) (hg:H'.grps=H.grps) (hd:H'.objs=H.objs.del r):Good B lo0 m H w m H' (dI w p.ax O):=by
 refine Good.ez hR (o':= .map []) hm hr ho hn hl (fun j x hx=>?_) (fun g l h=> .inl (by rw[hg]at h;exact h)) (fun j q x hj hq hx hb=>?_) (fun c g t h=>by cases h) (fun h=>?_) (fun b hb=>uK _ hb) (xU _) ⟨rfl,rfl⟩
 ·rw[hd]at hx
  exact .inr (Tr.jf hx)
 ·rw[hd]at hx
  have h1:=hR.sep r j p q o x (fun h=>hj h.symm) (wK hR.lo hr) hm hq ho (Tr.jf hx).2 hb.symm
  cases o with
  |row c g t=>exact eA c g t rfl
  |_=>exact h1
 ·rw[hd]at h
  exact absurd rfl (Tr.jf h).1
theorem Db{P:Program}{fn:Func}{tmps:Array Value}{R:Ending→World→Prop}:∀ (marks:List Nat) (defers:List Deferred) (H:Heap) (w:World) (t:Tr AObj),mT m marks defers→Rel B lo0 m H w→
  killMarks H.lo H.objs marks=some t→(∀w',Good B lo0 m H w m {objs:=t,grps:=H.grps,next:=H.next,lo:=H.lo} w'→LeavesIn Fence.wide 0 P fn tmps R [] .returning w')→LeavesInM Fence.wide 0 P fn tmps R defers .returning w
 |[],[],H,w,t,_,hR,hk,hq=>by
  simp only[killMarks,wi]at hk
  subst hk
  exact hq w (.refl hR)
 |r::marks,d::defers,H,w,t,⟨⟨p,h1,h2⟩,h3⟩,hR,hk,hq=>by
  simp only[killMarks]at hk
  cases ho:H.objs.get r with
  |none=>rw[ho]at hk;simp at hk
  |some o=>
   rw[ho]at hk
   cases o<;>simp only[reduceCtorEq]at hk
   obtain⟨h4,h5⟩:=cn hk
   have an:H.lo≤r:=by simpa using h4
   have hb:w.heap[p.ax]? =some (.deferred (some [])):=hR.obj r p _ h1 ho
   have hg:=Wx (O:= .deferred none) (H':={objs:=H.objs.del r,grps:=H.grps,next:=H.next,lo:=H.lo}) hR h1 an ho (fun c g t h=>by cases h) rfl rfl rfl rfl
   refine⟨by simp,.inl ⟨p.ax,dI w p.ax (.deferred none),h2,?_,?_⟩⟩
   ·simp only[Instr.takeDeferred,wB,ib hb (fun c e f h=>by cases h),wu,qo hb (fun c e f h=>by cases h),wC]
   ·exact Db marks defers _ _ t h3 hg.rel h5 fun w' qA=>hq w' (hg.trans qA)
end
variable[Maps]{H H' ki:Heap}{E:Env}
structure dv(H H':Heap):Prop where
 lo:H'.lo=H.lo
 ag:H.next≤H'.next
 low:∀ r o,r<H.lo→H'.objs.get r=some o→H.objs.get r=some o
theorem dv.refl(H:Heap):dv H H:=⟨rfl,wy _,fun _ _ _ h=>h⟩
theorem dv.trans(h:dv H H')(h':dv H' ki):dv H ki:=
 ⟨h'.lo.trans h.lo,wK h.ag h'.ag,fun r o hr ho=>h.low r o hr (h'.low r o (by rw[h.lo];exact hr) ho)⟩
theorem dv.ok(h:dv H H')(hl:H.lo≤H.next):H'.lo≤H'.next:=by rw[h.lo];exact wK hl h.ag
theorem G2(hl:H.lo≤H.next)(o:AObj):dv H (H.add o):=by
 refine⟨vn H o,by rw[iR];omega,fun r x hr hx=>?_⟩
 rcases Gf hx with⟨h,_⟩|⟨_,h⟩
 ·omega
 ·exact h
theorem yx{r:Nat}(hr:H.lo≤r)(o:AObj):dv H (H.setObj r o):=by
 refine⟨by simp[Heap.setObj,Tr.force_eq],by simp[Heap.setObj,Tr.force_eq],fun j x hj hx=>?_⟩
 simp only[Heap.setObj,Tr.force_eq]at hx
 rcases Tr.dm hx with⟨h,_⟩|⟨_,h⟩
 ·omega
 ·exact h
theorem DC{r o:Nat}{new:List Value}(h:H.write r o new=some H'):dv H H':=by
 obtain⟨cells,bK,h1,_,_,_,h5,h6,h7⟩:=Heap.Gt h
 refine⟨h6,by omega,fun j x hj hx=>?_⟩
 cases bK with
 |none=>
  rcases h7.1 j x hx with⟨h,_⟩|⟨_,h⟩
  ·omega
  ·exact h
 |some gz=>
  obtain⟨aT,_,h8,_⟩:=h7
  rcases h8 j x hx with⟨h,_⟩|⟨_,_,h⟩
  ·omega
  ·exact h
theorem Mu{r:Nat}{es:List (Value×Value)}(h:H.pv r es=some H'):dv H H':=by
 obtain⟨h1,h2,h3,_,h4⟩:=G3 h
 refine⟨h3,by omega,fun j x hj hx=>?_⟩
 rcases h4 j x hx with⟨h,_⟩|⟨_,h⟩
 ·omega
 ·exact h
theorem Mv(hl:H.lo≤H.next)(z:Nat)(cells:List Value):dv H (H.dd z cells):=by
 refine⟨by simp[Heap.dd,eU,Tr.force_eq],by simp[Heap.dd,eU,Tr.force_eq],fun j x hj hx=>?_⟩
 simp only[Heap.dd,eU,Tr.force_eq]at hx
 rcases Tr.dm hx with⟨h,_⟩|⟨_,h⟩
 ·omega
 ·exact h
theorem Ve(hl:H.lo≤H.next){r:Nat}{c:List Value}{g z:Nat}{new:List Value}(hr:H.lo≤r)(h:H.grow r c g z new=some H'):dv H H':=by
 unfold Heap.grow at h
 split at h
 ·simp at h
 ·simp only[eU,Tr.force_eq,wi]at h
  subst h
  refine⟨rfl,by simp,fun j x hj hx=>?_⟩
  rcases Tr.dm hx with⟨h,_⟩|⟨_,h⟩
  ·omega
  ·rcases Tr.dm h with⟨h,_⟩|⟨_,h⟩
   ·omega
   ·exact h
theorem Mw(hl:H.lo≤H.next){e:TypeId}{s v:Value}{k:Nat}{new:List Value}(h:appendV E H e s k new=some (v,H')):dv H H':=by
 unfold appendV at h
 simp only[we]at h
 obtain⟨i,_,h⟩:=h
 split at h
 ·cases hb:Nat.ble _ _ with
  |true=>rw[hb]at h;simp only[wai,wi,wk]at h;rw[←h.2];exact .refl H
  |false=>
   rw[hb]at h
   obtain⟨_,h⟩:=cD h
   simp only[wi,wk]at h
   rw[←h.2];exact Mv hl _ _
 ·cases hb:Nat.ble _ _ with
  |true=>
   rw[hb]at h
   simp only[wai]at h
   cases hk:Nat.beq k 0 with
   |true=>rw[hk]at h;simp only[wai,wi,wk]at h;rw[←h.2];exact .refl H
   |false=>
    rw[hk]at h
    simp only[wS,we,wi,wk]at h
    obtain⟨H1,h1,_,rfl⟩:=h
    exact DC h1
  |false=>
   rw[hb]at h
   simp only[wS]at h
   obtain⟨_,h⟩:=cD h
   split at h
   ·simp only[we,wi,wk]at h
    obtain⟨l,_,_,rfl⟩:=h
    exact Mv hl _ _
   ·obtain⟨h1,h⟩:=cn h
    simp only[we,wi,wk]at h
    obtain⟨l,_,H1,h2,_,rfl⟩:=h
    simp only[wA,wbi]at h1
    exact Ve hl h1.1.1.2 h2
   ·simp at h
 ·simp at h
theorem Vf{t:TypeId}{x k:Value}(h:Ao E H t x k=some H'):dv H H':=by
 simp only[Ao,we]at h
 obtain⟨i,_,h⟩:=h
 split at h
 ·obtain⟨_,h⟩:=cD h
  simp only[we]at h
  obtain⟨p,_,f,_,h⟩:=h
  split at h
  ·obtain⟨g1,g2,g3,g4,g5⟩:=Mx h
   exact⟨g3,by omega,fun r o hr ho=>by
    rcases g5 r o ho with⟨rfl,_⟩|⟨_,h⟩
    ·omega
    ·exact h⟩
  ·simp only[wi]at h
   rw[←h];exact .refl _
 ·simp at h
theorem Vg(hl:H.lo≤H.next){b:Builtin}{ts:List TypeId}{args:List Value}{v:Value}(h:builtinV E H b ts args=some (v,H')):dv H H':=by
 have still:∀ {x:Value},some (x,H)=some (v,H')→dv H H':=fun h=>by
  simp only[wi,wk]at h
  rw[←h.2];exact .refl H
 unfold builtinV at h
 split at h
 ·simp only[we]at h
  obtain⟨i,_,h⟩:=h
  split at h<;>first|exact still h|(split at h<;>first|exact still h|simp at h)|simp at h
 ·simp only[we]at h
  obtain⟨x,_,h⟩:=h
  exact still h
 ·simp only[we]at h
  obtain⟨x,_,h⟩:=h
  exact still h
 ·simp only[we]at h
  obtain⟨i,_,i',_,h⟩:=h
  split at h
  ·split at h
   ·simp only[we]at h
    obtain⟨n,_,l,_,j,_,h⟩:=h
    exact Mw hl (cn h).2
   ·simp only[we]at h
    obtain⟨n,_,l,_,h⟩:=h
    exact Mw hl h
   ·simp at h
  ·simp at h
 ·simp only[we]at h
  obtain⟨i,_,h⟩:=h
  split at h
  ·simp only[we]at h
   obtain⟨z,_,l,_,h⟩:=h
   split at h
   ·exact still h
   ·simp only[we,wi,wk]at h
    obtain⟨H1,h1,_,rfl⟩:=h
    exact DC h1
   ·simp at h
  ·simp at h
 ·simp only[we,wi,wk]at h
  obtain⟨H1,h1,_,rfl⟩:=h
  exact Vf h1
 ·simp only[we]at h
  obtain⟨i,_,h⟩:=h
  split at h
  ·exact still h
  ·simp only[we,wi,wk]at h
   obtain⟨l,_,H1,h1,_,rfl⟩:=h
   exact DC h1
  ·simp at h
 ·simp at h
def nK(call:cT):Prop:=∀ f args H v H',H.lo≤H.next→call f args H=some (v,H')→dv H H'
theorem As{call:cT}(hc:nK call)(hl:H.lo≤H.next){T:Tr Value}{o:Oper}{v:Value}(h:exOp E call T o H=some (v,H')):dv H H':=by
 have still:∀ {x:Value},some (x,H)=some (v,H')→dv H H':=fun h=>by
  simp only[wi,wk]at h
  rw[←h.2];exact .refl H
 have add:∀ {x:Value} {ob:AObj},some (x,H.add ob)=some (v,H')→dv H H':=fun h=>by
  simp only[wi,wk]at h
  rw[←h.2];exact G2 hl _
 unfold exOp at h
 cases ho:o.op with
 |store t x y=>
  simp only[ho,we,wi,wk]at h
  obtain⟨u,h1,u2,h2,H2,h3,rfl,rfl⟩:=h
  unfold tI at h3
  split at h3
  ·simp only[we]at h3
   obtain⟨n,_,h3⟩:=h3
   exact DC (cn h3).2
  ·simp at h3
 |mapUpdate t x k y=>
  simp only[ho,we,wi,wk]at h
  obtain⟨u,h1,u2,h2,u3,h3,H2,h4,rfl,rfl⟩:=h
  unfold mapUpdateV at h4
  simp only[we]at h4
  obtain⟨i,_,h4⟩:=h4
  split at h4
  ·obtain⟨_,h4⟩:=cD h4
   split at h4
   ·simp only[we]at h4
    obtain⟨f,_,h4⟩:=h4
    split at h4
    ·exact Mu h4
    ·exact Mu h4
   ·simp at h4
  ·simp at h4
 |makeSlice t l c=>
  simp only[ho,we]at h
  obtain⟨u,h1,u2,h2,h3⟩:=h
  unfold makeSliceV at h3
  simp only[we]at h3
  obtain⟨i,_,h3⟩:=h3
  split at h3
  ·split at h3
   ·simp only[we]at h3
    obtain⟨j,_,z,_,h3⟩:=h3
    exact add (cn h3).2
   ·simp at h3
  ·simp at h3
 |call c=>
  simp only[ho,we]at h
  obtain⟨args,h1,h⟩:=h
  cases lq:c.callee with
  |builtin b=>simp only[lq]at h;exact Vg hl h
  |value f=>
   simp only[lq,we]at h
   obtain⟨fv,h2,h3⟩:=h
   exact hc _ _ _ _ _ hl h3
  |invoke x name=>
   simp only[lq,we]at h
   obtain⟨xv,h2,mm,h3,h4⟩:=h
   exact hc _ _ _ _ _ hl h4
 |buildSlice t len parts=>
  simp only[ho,we]at h
  obtain⟨i,h1,h⟩:=h
  split at h
  ·simp only[we]at h
   obtain⟨j,_,z,_,h⟩:=h
   obtain⟨_,h⟩:=cD h
   simp only[we]at h
   obtain⟨ps,_,l,_,h⟩:=h
   exact add h
  ·simp at h
 |range t x=>
  simp only[ho,we]at h
  obtain⟨u,h1,i,h2,ob,_,h⟩:=h
  exact add h
 |next it str=>
  cases str with
  |false=>
   simp only[ho,we]at h
   obtain⟨u,h1,h⟩:=h
   unfold nextG at h
   split at h
   ·split at h
    ·obtain⟨hb,h⟩:=cD h
     split at h
     ·obtain⟨_,h⟩:=cD h
      split at h
      ·exact still h
      ·obtain⟨_,h⟩:=cn h
       simp only[wi,wk]at h
       rw[←h.2]
       exact yx (by simpa using hb) _
      ·simp at h
     ·simp at h
    ·simp at h
   ·simp at h
  |true=>
   simp only[ho,we]at h
   obtain⟨u,h1,h⟩:=h
   unfold nextV at h
   split at h
   ·split at h
    ·obtain⟨hb,h⟩:=cD h
     split at h
     ·exact still h
     ·simp only[eU,wi,wk]at h
      rw[←h.2]
      exact yx (by simpa using hb) _
    ·simp at h
   ·simp at h
 |alloc t=>
  simp only[ho,we]at h
  obtain⟨i,_,z,_,h⟩:=h
  exact add h
 |box t x=>
  simp only[ho,we]at h
  obtain⟨i,_,h⟩:=h
  exact add h
 |makeMap t r=>
  cases r with
  |none=>simp only[ho]at h;exact add h
  |some x=>simp[ho]at h
 |makeFunc fn first captured=>
  simp only[ho]at h
  split at h
  ·simp at h
  ·simp only[we]at h
   obtain⟨a,_,b,_,h⟩:=h
   exact still h
 |pick c x y=>
  simp only[ho,we]at h
  obtain⟨u,_,h⟩:=h
  split at h
  ·simp only[we]at h
   obtain⟨u,_,h⟩:=h
   exact still h
  ·simp only[we]at h
   obtain⟨u,_,h⟩:=h
   exact still h
  ·simp at h
 |nilCheck x=>
  simp only[ho,we]at h
  obtain⟨u,_,h⟩:=h
  split at h
  all_goals first
   |exact still h
   |(simp at h;done)
   |(split at h
     ·simp only[we]at h
      obtain⟨_,_,h⟩:=h
      exact still h
     ·simp at h)
 |makeInterface t x=>
  simp only[ho,we]at h
  obtain⟨u,_,i,_,h⟩:=h
  split at h<;>first|exact still h|simp at h
 |extract t ix=>
  simp only[ho,we]at h
  obtain⟨u,_,h⟩:=h
  split at h
  ·simp only[we]at h
   obtain⟨u,_,h⟩:=h
   exact still h
  ·simp at h
 |_=>
  first
  |(simp only[ho,we]at h;obtain⟨u,_,h⟩:=h;exact still h)
  |(simp only[ho,we]at h;obtain⟨u,_,u2,_,h⟩:=h;exact still h)
  |(simp only[ho,we]at h;obtain⟨u,_,u2,_,u3,_,h⟩:=h;exact still h)
  |(simp only[ho,we]at h;obtain⟨u,_,u2,_,u3,_,u4,_,u5,_,h⟩:=h;exact still h)
  |(simp[ho]at h)
theorem DD{call:cT}(hc:nK call){all:List Oper}{size:Nat}:∀ (l:List Oper) {T T':Tr Value} {H H':Heap},H.lo≤H.next→exOps E call all size l T H=some (T',H')→dv H H'
 |[],T,T',H,H',_,h=>by
  simp only[exOps,wi,wk]at h
  rw[←h.2];exact .refl H
 |o::l,T,T',H,H',hl,h=>by
  simp only[exOps,ub]at h
  split at h
  ·simp at h
  ·simp only[we]at h
   obtain⟨r,h1,T1,_,h3⟩:=h
   have h4:=As hc hl h1
   exact h4.trans (DD hc l (h4.ok hl) h3)
  ·simp only[we]at h
   obtain⟨T1,_,h3⟩:=h
   exact DD hc l hl h3
theorem Lp(hl:H.lo≤H.next)(b:Bool)(h:dv {objs:=H.objs,grps:=H.grps,next:=H.next,lo:=bif b then H.next else H.lo} H'):dv H {objs:=H'.objs,grps:=H'.grps,next:=H'.next,lo:=H.lo}:=
 ⟨rfl,h.ag,fun r o hr ho=>h.low r o (by cases b<;>simp<;>omega) ho⟩
theorem G4{call:cT}(hc:nK call){all:List Oper}{size:Nat}:∀ (l:List Oper) (a9:List Info) {T T':Tr Value} {H H':Heap},H.lo≤H.next→exDraw E call all size l a9 T H=some (T',H')→dv H H'
 |[],_,T,T',H,H',_,h=>by
  simp only[exDraw,wi,wk]at h
  rw[←h.2];exact .refl H
 |o::l,[],T,T',H,H',hl,h=>by simp[exDraw]at h
 |o::l,i::a9,T,T',H,H',hl,h=>by
  simp only[exDraw,ub]at h
  split at h
  ·simp at h
  ·obtain⟨_,h⟩:=cn h
   simp only[we]at h
   obtain⟨r,h1,h⟩:=h
   obtain⟨_,h⟩:=cn h
   simp only[we]at h
   obtain⟨T1,_,h3⟩:=h
   have h4:=Lp hl i.grow (As hc (by cases i.grow<;>simp<;>omega) h1)
   exact h4.trans (G4 hc l a9 (h4.ok hl) h3)
  ·simp only[we]at h
   obtain⟨T1,_,h3⟩:=h
   exact G4 hc l a9 hl h3
theorem Vh{call:cT}(hc:nK call){ops:Array Oper}{size:Nat}{T T':Tr Value}(hl:H.lo≤H.next)(h:rO E call ops size T H=some (T',H')):dv H H':=by
 unfold rO at h
 obtain⟨_,h⟩:=cD h
 simp only[we]at h
 obtain⟨a9,_,r,h1,h2⟩:=h
 have h3:=(cn h2).2
 simp only[wi]at h3
 subst h3
 exact G4 hc _ a9 hl h1
theorem My{lo:Nat}:∀ {l:List Nat} {t t':Tr AObj},killMarks lo t l=some t'→∀ r o,r<lo→t'.get r=some o→t.get r=some o
 |[],t,t',h,r,o,_,ho=>by
  simp only[killMarks,wi]at h
  rw[h];exact ho
 |k::l,t,t',h,r,o,hr,ho=>by
  simp only[killMarks]at h
  split at h
  ·obtain⟨_,h⟩:=cn h
   exact(Tr.jf (My h r o hr ho)).2
  ·simp at h
theorem Mz{l:Nat}{b:Bool}{st:LoopState}{fK:Option Code}(hl:H.lo≤l)(h:H.setLoop l b st fK=some H'):dv H H':=by
 unfold Heap.setLoop at h
 split at h
 ·split at h
  ·simp only[wi]at h;rw[←h];exact yx hl _
  ·simp at h
  ·simp only[wi]at h;rw[←h];exact yx hl _
 ·simp at h
def vw(run:Code→Fr→Heap→Option (Ex×Fr×Heap)):Prop:=∀ c fr H ex bl H',H.lo≤H.next→run c fr H=some (ex,bl,H')→dv H H'
theorem GU{run:Code→Fr→Heap→Option (Ex×Fr×Heap)}(hr:vw run):nK (callBody E run):=by
 intro f args H v H' hl h
 simp only[callBody,we]at h
 obtain⟨⟨tf,targs⟩,ht,h⟩:=h
 clear ht
 simp only at h
 split at h
 ·simp only[we]at h
  obtain⟨fn,k1,h⟩:=h
  split at h
  ·simp only[we,wi,wk]at h
   obtain⟨_,_,_,rfl⟩:=h
   exact .refl _
  obtain⟨k3,h⟩:=cD h
  simp only[we]at h
  obtain⟨⟨ex,bl,H₁⟩,k4,h⟩:=h
  have h1:=hr _ _ _ _ _ _ hl k4
  have h6:∃ t,killMarks H.lo H₁.objs bl.marks=some t∧H'={objs:=t,grps:=H₁.grps,next:=H₁.next,lo:=H₁.lo}:=by
   cases ex with
   |exit id=>simp at h
   |_=>
    simp only[we,Tr.force_eq,wi,wk]at h
    obtain⟨t,a1,vs,a2,a3,a4⟩:=h
    exact⟨t,a1,a4.symm⟩
  obtain⟨t,h7,rfl⟩:=h6
  exact⟨h1.lo,h1.ag,fun r o hr ho=>h1.low r o hr (My h7 r o hr ho)⟩
 ·rename_i l
  split at h
  ·obtain⟨k1,h⟩:=cD h
   have an:H.lo≤l:=by simpa using k1
   simp only[we]at h
   obtain⟨T',k2,⟨cI,dV,H₁⟩,k3,h⟩:=h
   have g1:=hr _ _ _ _ _ _ hl k3
   cases cI with
   |normal=>
    simp only[we]at h
    obtain⟨H₂,k4,⟨ex,tC,H₃⟩,k5,h⟩:=h
    have g2:=g1.trans (Mz (by rw[g1.lo];exact an) k4)
    have g3:=g2.trans (hr _ _ _ _ _ _ (g2.ok hl) k5)
    have key:∀ {b:Bool} {st:LoopState} {fK:Option Code},H₃.setLoop l b st fK=some H'→dv H H':=fun h=>g3.trans (Mz (by rw[g3.lo];exact an) h)
    cases ex with
    |normal=>
     simp only[we,wi,wk]at h
     obtain⟨H₄,k6,_,rfl⟩:=h
     exact key k6
    |ret=>
     simp only[we,wi,wk]at h
     obtain⟨H₄,k6,_,rfl⟩:=h
     exact key k6
    |exit id=>
     simp only[we,wi,wk]at h
     obtain⟨H₄,k6,_,rfl⟩:=h
     exact key k6
   |_=>simp at h
  ·simp at h
 ·simp at h
theorem DE(hO:nK E.orc){run:Code→Fr→Heap→Option (Ex×Fr×Heap)}(hr:vw run):nK (fQ E run):=by
 intro f args H v H' hl h
 unfold fQ at h
 cases ho:E.orc f args H with
 |some r=>
  rw[ho]at h
  simp only[wi]at h
  subst h
  exact hO f args H v H' hl ho
 |none=>
  rw[ho]at h
  exact GU hr f args H v H' hl h
theorem MA(hO:nK E.orc){run:Code→Fr→Heap→Option (Ex×Fr×Heap)}(hr:vw run){v:Value}:∀ (c:Code) {fr bl:Fr} {H H':Heap} {ex:Ex},H.lo≤H.next→runHead E run v c fr H=some (ex,bl,H')→dv H H'
 | .seq a b,fr,bl,H,H',ex,hl,h=>by
   simp only[runHead,we]at h
   obtain⟨⟨cI,dV,H₁⟩,h1,h2⟩:=h
   have g1:=MA hO hr a hl h1
   cases cI with
   |normal=>exact g1.trans (hr _ _ _ _ _ _ (g1.ok hl) h2)
   |exit id=>simp only[wi,wk]at h2;rw[←h2.2.2];exact g1
   |ret=>simp only[wi,wk]at h2;rw[←h2.2.2];exact g1
 | .region id ops d,fr,bl,H,H',ex,hl,h=>by
   simp only[runHead]at h
   split at h
   ·simp only[we,wi,wk]at h
    obtain⟨T,_,⟨T',H₁⟩,h2,_,_,rfl⟩:=h
    exact DD (DE hO hr) _ hl h2
   ·simp at h
 | .skip,_,_,_,_,_,_,h| .cond ..,_,_,_,_,_,_,h| .block ..,_,_,_,_,_,_,h| .loop ..,_,_,_,_,_,_,h| .rangeFunc ..,_,_,_,_,_,_,h| .exit ..,_,_,_,_,_,_,h| .scope ..,_,_,_,_,_,_,h
 | .label ..,_,_,_,_,_,_,h| .goto ..,_,_,_,_,_,_,h| .ret,_,_,_,_,_,_,h| .refuse ..,_,_,_,_,_,_,h=>by simp[runHead]at h
theorem Vi(hO:nK E.orc){run:Code→Fr→Heap→Option (Ex×Fr×Heap)}(hr:vw run):vw (runWith E run):=by
 intro c fr H ex bl H' hl h
 have still:∀ {a:Ex} {b:Fr},some (a,b,H)=some (ex,bl,H')→dv H H':=fun h=>by
  simp only[wi,wk]at h
  rw[←h.2.2];exact .refl H
 have kj:∀ {H₁:Heap} {a:Ex} {b:Fr},dv H H₁→some (a,b,H₁)=some (ex,bl,H')→dv H H':=fun g h=>by
  simp only[wi,wk]at h
  rw[←h.2.2];exact g
 cases c with
 |skip=>exact still h
 |label l=>exact still h
 |exit id=>exact still h
 |ret=>exact still h
 |region id ops rQ=>
  cases rQ with
  |false=>
   simp only[runWith,we]at h
   obtain⟨⟨T',H₁⟩,h1,h2⟩:=h
   exact kj (DD (DE hO hr) _ hl h1) h2
  |true=>
   simp only[runWith,we]at h
   obtain⟨⟨T',H₁⟩,h1,h2⟩:=h
   exact kj (Vh (DE hO hr) hl h1) h2
 |seq a b=>
  simp only[runWith,we]at h
  obtain⟨⟨cI,dV,H₁⟩,h1,h2⟩:=h
  have g1:=hr _ _ _ _ _ _ hl h1
  cases cI with
  |normal=>exact g1.trans (hr _ _ _ _ _ _ (g1.ok hl) h2)
  |exit id=>exact kj g1 h2
  |ret=>exact kj g1 h2
 |cond x p q=>
  simp only[runWith,we]at h
  obtain⟨v,_,h2⟩:=h
  split at h2
  ·exact hr _ _ _ _ _ _ hl h2
  ·exact hr _ _ _ _ _ _ hl h2
  ·simp at h2
 |block id x=>
  simp only[runWith,we]at h
  obtain⟨⟨cI,dV,H₁⟩,h1,h2⟩:=h
  have g1:=hr _ _ _ _ _ _ hl h1
  cases cI with
  |exit i=>
   simp only at h2
   cases hb:Nat.beq i id with
   |true=>rw[hb]at h2;exact kj g1 h2
   |false=>rw[hb]at h2;exact kj g1 h2
  |normal=>exact kj g1 h2
  |ret=>exact kj g1 h2
 |loop a=>
  simp only[runWith]at h
  split at h
  ·rename_i Vj _
   cases hg:x8 fr.T H Vj with
   |true=>
    rw[hg]at h
    simp only[wai]at h
    unfold Aq at h
    simp only[we]at h
    obtain⟨⟨cI,dV,H₁⟩,h1,h2⟩:=h
    have g1:=hr _ _ _ _ _ _ hl h1
    cases cI with
    |normal=>
     simp only[we]at h2
     obtain⟨⟨G5,tC,H₂⟩,h3,h4⟩:=h2
     have g2:=g1.trans (hr _ _ _ _ _ _ (g1.ok hl) h3)
     cases G5 with
     |normal=>simp at h4
     |exit id=>exact kj g2 h4
     |ret=>exact kj g2 h4
    |exit id=>exact kj g1 h2
    |ret=>exact kj g1 h2
   |false=>
   rw[hg]at h
   simp only[wS]at h
   unfold mapLoop at h
   simp only[Tr.force_eq,we]at h
   obtain⟨it,_,h⟩:=h
   split at h
   ·split at h
    ·simp only[we]at h
     obtain⟨es,_,h⟩:=h
     obtain⟨k,h⟩:=cD h
     simp only[we]at h
     obtain⟨o,_,h⟩:=h
     cases o with
     |some vs=>
      simp only[wi,wk]at h
      obtain⟨rfl,rfl,rfl⟩:=h
      exact⟨rfl,wy _,fun r o hr ho=>(Tr.jf ho).2⟩
     |none=>
     simp only[we]at h
     obtain⟨⟨cI,dV,H₁⟩,h1,h2⟩:=h
     simp only[wbM,waM,wbi]at k
     have g1:=MA (E:=E) hO hr _ (H:={objs:=H.objs.del _,grps:=H.grps,next:=H.next,lo:=H.lo}) hl h1
     have g2:dv H H₁:=⟨g1.lo,g1.ag,fun r o hr ho=>(Tr.jf (g1.low r o hr ho)).2⟩
     cases cI with
     |normal=>simp at h2
     |exit id=>exact kj g2 h2
     |ret=>exact kj g2 h2
    ·simp at h
   ·simp at h
  ·simp only[we]at h
   obtain⟨⟨cI,dV,H₁⟩,h1,h2⟩:=h
   have g1:=hr _ _ _ _ _ _ hl h1
   cases cI with
   |normal=>exact g1.trans (hr _ _ _ _ _ _ (g1.ok hl) h2)
   |exit id=>exact kj g1 h2
   |ret=>exact kj g1 h2
 |scope x=>exact hr _ _ _ _ _ _ hl h
 |rangeFunc g ps assign body=>
  simp only[runWith]at h
  split at h
  ·simp at h
  ·simp only[we]at h
   obtain⟨gv,_,h⟩:=h
   unfold rangeV at h
   simp only at h
   split at h
   ·simp only[we]at h
    obtain⟨⟨rv,H₃⟩,h2,h3⟩:=h
    have g1:=G2 hl .defers
    have g2:=g1.trans (G2 (g1.ok hl) (.loop .ready none fr.size fr.T ps.toList assign body H.next))
    have g3:=g2.trans (GU hr _ _ _ _ _ (g2.ok hl) h2)
    have an:H₃.lo≤(H.add .defers).next:=by rw[g3.lo,iR];omega
    simp only at h3
    split at h3
    ·split at h3
     ·simp at h3
     ·split at h3
      ·exact kj (g3.trans (yx an _)) h3
      ·have g4:∀ o,dv H (H₃.setObj (H.add .defers).next o):=fun o=>g3.trans (yx an o)
       split at h3
       ·exact(g4 _).trans (hr _ _ _ _ _ _ ((g4 _).ok hl) h3)
       ·exact(g4 _).trans (hr _ _ _ _ _ _ ((g4 _).ok hl) h3)
       ·simp at h3
    ·simp at h3
   ·simp at h
 |_=>simp[runWith]at h
theorem GV(hO:nK E.orc):∀ n,vw (run E n)
 |0=>fun c fr H ex bl H' _ h=>by simp[run]at h
 |n+1=>Vi hO (GV hO n)
end Go.AM
namespace Go.AM
section
variable[Maps]{B lo0:Nat}{m:Match}{H:Heap}{w:World}{E:Env}
theorem FT{p:dO}{wr:Bool}{st:LoopState}{fK:Option Code}{size:Nat}{T:Tr Value}{ps:List Tmp}{as bo:Code}{de:Nat}(ho:iP wr m p w (.loop st fK size T ps as bo de)):
  ∃l:Loop,w.heap[p.ax]? =some (.loop l)∧l.state=st∧l.pending=fK∧l.tmps.size=size∧fk m T l.tmps∧l.params.toList=ps∧l.assign=as∧l.body=bo:=ho
theorem KU(hR:Rel B lo0 m H w){l:Nat}{p:dO}{ready:Bool}{st:LoopState}{fK:Option Code}{H':Heap}(hm:m l=some p)(hl:H.lo≤l)(h:H.setLoop l ready st fK=some H'):
  ∃L:Loop,w.heap[p.ax]? =some (.loop L)∧(ready=true→L.state= .ready)∧Good B lo0 m H w m H' (dI w p.ax (.loop {L with state:=st,pending:=bif ready then L.pending else fK})):=by
 unfold Heap.setLoop at h
 split at h
 ·rename_i KV FU size T ps as bo de ho
  obtain⟨L,h1,h2,h3,h4,h5,h6,h7,h8⟩:=FT (hR.obj l p _ hm ho)
  have hb:p.ax<w.heap.size:=(hR.dom l p hm).2.1
  have key:∀ CZ,Good B lo0 m H w m (H.setObj l (.loop st CZ size T ps as bo de)) (dI w p.ax (.loop {L with state:=st,pending:=CZ})):=fun CZ=>by
   refine Good.exchange hR hm hl ho (fun c g t h=>by cases h) (fun c g t h=>by cases h) (o':= .loop st CZ size T ps as bo de) ?_ ?_ ?_ (fun j x hx=>?_) ⟨_,nG _ hb,rfl,rfl,h4,h5,h6,h7,h8⟩
   ·simp[Heap.setObj,Tr.force_eq]
   ·simp[Heap.setObj,Tr.force_eq]
   ·simp[Heap.setObj,Tr.force_eq]
   ·simp only[Heap.setObj,Tr.force_eq]at hx
    exact Tr.dm hx
  split at h
  ·simp only[wi]at h
   subst h
   refine⟨L,h1,fun _=>h2,?_⟩
   have:=key FU
   rw[←h3]at this
   exact h3▸this
  ·simp at h
  ·simp only[wi]at h
   subst h
   exact⟨L,h1,fun h=>Bool.noConfusion h,key fK⟩
 ·simp at h
end
section
variable{B lo0:Nat}{m:Match}{w:World}{P:Program}
theorem C0{P:Program}{b:Nat}{L:Loop}(h:w.heap[b]? =some (.loop L)):(Instr.getLoop b).run P w= .ok L w:=by
 simp only[Instr.getLoop,wB,ib h (fun c e f h=>by cases h),wu,wC]
theorem SZ{P:Program}{b:Nat}{L:Loop}(h:w.heap[b]? =some (.loop L))(hs:L.state= .ready):(Instr.beginRound b).run P w= .ok () (dI w b (.loop {L with state:= .busy,pending:=L.pending})):=by
 simp only[Instr.beginRound,wB,C0 h,wu,qo h (fun c e f h=>by cases h),hs,wC]
theorem FV{P:Program}{b:Nat}{L:Loop}(h:w.heap[b]? =some (.loop L))(jump:Option Code):
  (Instr.endRound b jump).run P w= .ok (.bool jump.isNone) (dI w b (.loop {L with state:=if jump.isNone then .ready else .done,pending:=jump})):=by
 simp only[Instr.endRound,wB,C0 h,wu,qo h (fun c e f h=>by cases h),wC]
end
section
variable[Maps]{B lo0:Nat}{m:Match}{H:Heap}{w:World}{E:Env}
theorem KW{m:Match}{size:Nat}:∀ {ps:List Tmp} {vs fe:List Value} {T T':Tr Value} {tmps:Array Value},paramsT size ps vs T=some T'→LRel m vs fe→fk m T tmps→tmps.size=size→
  ps.length=vs.length∧fk m T' ((ps.zip fe).foldl (fun tmps (x:Tmp×Value)=>tmps.setIfInBounds x.1 x.2) tmps)∧((ps.zip fe).foldl (fun tmps (x:Tmp×Value)=>tmps.setIfInBounds x.1 x.2) tmps).size=size
 |[],[],fe,T,T',tmps,h,hv,ht,hs=>by
  simp only[paramsT,wi]at h
  subst h
  exact⟨rfl,by simpa using ht,by simpa using hs⟩
 |p::ps,v::vs,fe,T,T',tmps,h,hv,ht,hs=>by
  obtain⟨v',r,rfl,h1,h2⟩:=hv.oC
  simp only[paramsT]at h
  obtain⟨h3,h4⟩:=cn h
  have S0:gQ size T (some p) v=some (T.set p v):=by simp[gQ,h3,Tr.force_eq]
  obtain⟨q1,q2,_,_⟩:=Da (a:={tmps:=tmps,defers:=[]}) S0 ht hs h1
  obtain⟨e1,e2,e3⟩:=KW h4 h2 q1 q2
  exact⟨by simp[e1],e2,e3⟩
 |[],_::_,_,_,_,_,h,_,_,_=>by simp[paramsT]at h
 |_::_,[],_,_,_,_,h,_,_,_=>by simp[paramsT]at h
theorem S1(hE:EnvOk E){run:Code→Fr→Heap→Option (Ex×Fr×Heap)}(bG:oD E run){g:FuncId}{fn:Func}{c:Code}{args:List Value}{bI:Array Value}{ex:Ex}{bl:Fr}{H₁:Heap}{t:Tr AObj}{vs:List Value}
  (h1:E.fn.get g=some fn) (h2:fn.body=some c) (h3:args.length≤fn.ntmps) (h4:run c {T:=Tr.of args,size:=fn.ntmps,marks:=[],round:=none} H=some (ex,bl,H₁)) (h5:∀ id,ex≠ .exit id)
  (h6:killMarks H.lo H₁.objs bl.marks=some t) (h7:resultsV E {objs:=t,grps:=H₁.grps,next:=H₁.next,lo:=H₁.lo} bl.T fn.results.toList=some vs) (hR:Rel B lo0 m H w) (ha:LRel m args bI.toList):
  iB B lo0 E m H w (jA vs) {objs:=t,grps:=H₁.grps,next:=H₁.next,lo:=H₁.lo} ((callFunc g bI).run E.P w):=by
 have hf:=hE.fn g fn h1
 have S2:(fn.name== "runtime.NumGoroutine")=false:=hE.num g fn h1
 have iQ:(callFunc g bI).run E.P w= .ok (.enter g bI) w:=by
  simp only[callFunc,wB,run_program,wu,hf,S2,h2,wG,waa,Option.isNone_some,wC]
 rw[iB,iQ]
 show CallsIn Fence.wide 0 E.P g bI w _
 refine wcQ hf h2 trivial ?_
 have cG:gB m {T:=Tr.of args,size:=fn.ntmps,marks:=[],round:=none} {tmps:=bI++Array.replicate (fn.ntmps-bI.size) undef,defers:=[]} none:=by
  refine⟨fun t v hv=>?_,?_,trivial,fun _=>rfl⟩
  ·obtain⟨v',e1,e2⟩:=ha.get (Tr.Al hv)
   have:t<bI.size:=by simpa using(wD.1 e1).1
   exact⟨v',by rw[wcb this];simpa using e1,e2⟩
  ·have:=ha.1
   simp at this ⊢;omega
 refine waJ (bG c _ H ex bl H₁ h4 B lo0 m _ w none hR cG) fun e a' w' hp=>?_
 obtain⟨rfl,m',hg,KX,_⟩:=hp
 have tB:LeavesInM Fence.wide 0 E.P fn a'.tmps (fun e fD=>∃ v,e= .returned v∧∃ rK,Good B lo0 m H w rK {objs:=t,grps:=H₁.grps,next:=H₁.next,lo:=H₁.lo} fD∧VRel rK (jA vs) v) a'.defers .returning w':=by
  rw[←hg.lo]at h6
  refine Db bl.marks a'.defers H₁ w' t KX.marks hg.rel h6 fun fD ic=>?_
  obtain⟨v',r1,r2⟩:=FW hE ic.rel KX.tmps h7
  exact⟨v',r1,v',rfl,m',hg.trans ic,r2⟩
 cases ex with
 |normal=>exact tB
 |ret=>exact tB
 |exit id=>exact absurd rfl (h5 id)
theorem FX{run:Code→Fr→Heap→Option (Ex×Fr×Heap)}(bG:oD E run){l:Nat}{p:dO}{fK:Option Code}{size:Nat}{T T':Tr Value}{ps:List Tmp}{assign body:Code}{de:Nat}{args:List Value}{bI:Array Value}
  {dV tC:Fr} {H₁ H₂ H₃ H₄:Heap} {ex:Ex} {b:Bool} {st:LoopState} {jump:Option Code}
  (hm:m l=some p) (hl:H.lo≤l) (h1:H.objs.get l=some (.loop .ready fK size T ps assign body de)) (h2:paramsT size ps args T=some T') (h3:run assign {T:=T',size,marks:=[],round:=some l} H=some (.normal,dV,H₁))
  (h4:H₁.setLoop l true .busy none=some H₂) (h5:run body dV H₂=some (ex,tC,H₃)) (h6:H₃.setLoop l false st jump=some H₄)
  (hj:(ex= .normal∧jump=none∧b=true∧st= .ready)∨(ex= .ret∧jump=some .ret∧b=false∧st= .done)∨(∃id,ex= .exit id∧jump=some (.exit id)∧b=false∧st= .done))
  (hR:Rel B lo0 m H w) (ha:LRel m args bI.toList):iB B lo0 E m H w (.bool b) H₄ ((Instr.yield p.ax bI).run E.P w):=by
 obtain⟨L,e1,_,_,e4,e5,e6,e7,e8⟩:=FT (hR.obj l p _ hm h1)
 obtain⟨f1,f2,f3⟩:=KW h2 ha e5 e4
 have bf:¬ bI.size≠L.params.size:=by
  have:=ha.1
  rw[←e6]at f1
  simp at this f1 ⊢;omega
 have iQ:(Instr.yield p.ax bI).run E.P w= .ok (.round p.ax L.fn ((L.params.zip bI).foldl (fun tmps (t,a)=>tmps.setIfInBounds t a) L.tmps) L.assign L.body) w:=by
  simp only[Instr.yield,wB,C0 e1,wu,bf,waa,wC]
 rw[iB,iQ]
 show RoundIn Fence.wide 0 E.P _ _ _ _ _ w _
 have Dc:((L.params.zip bI).foldl (fun tmps (x:Tmp×Value)=>tmps.setIfInBounds x.1 x.2) L.tmps)=(ps.zip bI.toList).foldl (fun tmps (x:Tmp×Value)=>tmps.setIfInBounds x.1 x.2) L.tmps:=by
  rw[←wcA,Array.toList_zip,e6]
 refine roundIn_of_wpIn trivial ?_
 rw[e7,e8]
 have cG:gB m {T:=T',size,marks:=[],round:=some l} {tmps:=(L.params.zip bI).foldl (fun tmps (t,a)=>tmps.setIfInBounds t a) L.tmps,defers:=[]} (some p.ax):=by
  refine⟨?_,?_,trivial,fun h=>by cases h⟩
  ·show fk m T' ((L.params.zip bI).foldl (fun tmps (x:Tmp×Value)=>tmps.setIfInBounds x.1 x.2) L.tmps)
   rw[Dc];exact f2
  ·show((L.params.zip bI).foldl (fun tmps (x:Tmp×Value)=>tmps.setIfInBounds x.1 x.2) L.tmps).size=size
   rw[Dc];exact f3
 refine waJ (bG assign _ H .normal dV H₁ h3 B lo0 m _ w (some p.ax) hR cG) fun e a₁ w₁ hp=>?_
 obtain⟨rfl,m₁,tD,S3,_⟩:=hp
 have KY:=tD.le _ _ hm
 obtain⟨L₁,g1,g2,FY⟩:=KU tD.rel KY (by rw[tD.lo];exact hl) h4
 refine⟨_,SZ g1 (g2 rfl),?_⟩
 refine waJ (bG body dV H₂ ex tC H₃ h5 B lo0 m₁ a₁ _ (some p.ax) FY.rel S3) fun e a₂ w₂ hp=>?_
 obtain⟨rfl,m₂,mH,ziG,_⟩:=hp
 have S4:=mH.le _ _ KY
 obtain⟨L₂,k1,_,Dd⟩:=KU mH.rel S4 (by rw[mH.lo,FY.lo,tD.lo];exact hl) h6
 have tE:=(tD.trans FY).trans (mH.trans Dd)
 rcases hj with⟨rfl,rfl,rfl,rfl⟩|⟨rfl,rfl,rfl,rfl⟩|⟨id,rfl,rfl,rfl,rfl⟩
 ·exact⟨_,_,FV k1 none,.bool true,rfl,m₂,tE,.bool true⟩
 ·exact⟨_,_,FV k1 (some .ret),.bool false,rfl,m₂,tE,.bool false⟩
 ·exact⟨_,_,FV k1 (some (.exit id)),.bool false,rfl,m₂,tE,.bool false⟩
theorem S5(hE:EnvOk E){t:TypeId}{i:TI}{e:TypeId}(h:E.ty.get t=some i)(hd:i.desc= .pointer e){path:Array FieldStep}(hp:path.toList=[])(x:Value)(w:World):(receiverVia t x path true).run E.P w= .ok x w:=by
 simp only[receiverVia,hp,follow,wB,wC,wu,receiverAt,hE.desc h hd,Place.get]
end
section
theorem KZ{name origin:String}{a b:List Value}{f:Fn}{x y:Array Value}:nativeV name origin (a++[.func f x y]++b)=none:=by
 unfold nativeV
 cases(name== "internal/bytealg.IndexByteString" &&origin== "")with
 |false=>rfl
 |true=>
  simp only[wai]
  split
  ·rename_i s c h
   exfalso
   have hm:Value.func f x y∈[Value.string s,Value.int .u8 c]:=by rw[←h];simp
   simp at hm
  ·rfl
theorem idxOf_eq(s:ByteArray)(c:UInt8):∀ (m k:Nat),k+m=s.size→idxOf c.toNat (s.data.toList.drop k) k=match(List.range' k m).find? (fun i=>s[i]! ==c)with|some i=>(i:Int)|none=> -1
 |0,k,h=>by
  have:s.data.toList.drop k=[]:=waO (by rw[waF];show s.size≤k;omega)
  rw[this];rfl
 |m+1,k,h=>by
  have hk:k<s.size:=by omega
  have gR:k<s.data.toList.length:=by rw[waF];exact hk
  rw[wX gR,List.range'_succ,List.find?_cons]
  have hg:s[k]! =s.data.toList[k]:=by
   rw[getElem!_pos s k hk,wcM]
   rfl
  simp only[idxOf]
  rw[hg]
  cases hb:Nat.beq (s.data.toList[k]).toNat c.toNat with
  |true=>
   have:(s.data.toList[k]==c)=true:=by
    rw[wbO]
    exact UInt8.toNat_inj.1 (by simpa using hb)
   rw[this];rfl
  |false=>
   have:(s.data.toList[k]==c)=false:=by
    rw[beq_eq_false_iff_ne]
    rintro h
    rw[h]at hb
    simp at hb
   rw[this]
   exact idxOf_eq s c m (k+1) (by omega)
theorem S6(s:ByteArray)(c:Int):idxOf (c.toNat%256) s.data.toList 0=firstIdx s c.toNat.toUInt8:=by
 have:=idxOf_eq s c.toNat.toUInt8 s.size 0 (by omega)
 rw[waZ]at this
 unfold firstIdx
 rw[wcL]
 exact this
theorem S7{fn:Func}(hn:fn.name= "internal/bytealg.IndexByteString")(ho:fn.origin= ""):Extern.findNext fn=none∧Extern.find fn=some Extern.BytealgIndexByte.indexByte:=by
 obtain⟨name,origin,targs,params,resultTypes,nfree,ntmps,results,body,norace,ours,file,endLine,litNo,met,tmpNames⟩:=fn
 simp only at hn ho
 subst hn ho
 exact⟨by kernel_rfl,by kernel_rfl⟩
end
section
variable[Maps]{B lo0:Nat}{m:Match}{H:Heap}{w:World}{E:Env}
theorem S8(hE:EnvOk E){g:FuncId}{fn:Func}{args:List Value}{bI:Array Value}{v:Value}(h1:E.fn.get g=some fn)(h2:fn.body=none)(h:nativeV fn.name fn.origin args=some v)(hR:Rel B lo0 m H w)(ha:LRel m args bI.toList):
  iB B lo0 E m H w v H ((callFunc g bI).run E.P w):=by
 unfold nativeV at h
 obtain⟨hb,h⟩:=cn h
 simp only[wA,wbO]at hb
 split at h
 ·rename_i s c _
  simp only[rL,wi]at h
  subst h
  obtain⟨e1,e2⟩:=S7 hb.1 hb.2
  obtain⟨x,r,hx,x1,x2⟩:=ha.oC
  obtain⟨y,r',rfl,y1,y2⟩:=x2.oC
  have cp:=y2.mG
  subst cp
  cases x1
  cases y1
  have hargs:bI= #[.string s,.int .u8 c]:=by rw[←wbW];exact hx
  subst hargs
  have iQ:=run_callFunc_extern (hE.fn g fn h1) (hE.num g fn h1) (by rw[h2];rfl) e1 e2 #[.string s,.int .u8 c] w
  rw[run_indexByte_string,wu]at iQ
  rw[iB,iQ,S6]
  exact⟨m,.refl hR,.int _ _⟩
 ·simp at h
theorem FZ(hE:EnvOk E){run:Code→Fr→Heap→Option (Ex×Fr×Heap)}(bG:oD E run):qp B lo0 E (callBody E run):=by
 intro f args H v H' h m w f' bI hf ha hR
 simp only[callBody,we]at h
 obtain⟨⟨tf,targs⟩,h1,h⟩:=h
 have F0:∀ (g:FuncId) (l:List Value) (l':Array Value),tf= .func g→targs=l→LRel m l l'.toList→iB B lo0 E m H w v H' ((callFunc g l').run E.P w):=by
  intro g l l' e1 e2 hl
  subst e1 e2
  simp only[we]at h
  obtain⟨fn,k1,h⟩:=h
  split at h
  ·rename_i hb
   simp only[we,wi,wk]at h
   obtain⟨v₀,h,rfl,rfl⟩:=h
   exact S8 hE k1 hb h hR hl
  rename_i c k2
  obtain⟨k3,h⟩:=cD h
  simp only[we]at h
  obtain⟨⟨ex,bl,H₁⟩,k4,h⟩:=h
  have h5:∀ id,ex≠ .exit id:=fun id he=>by subst he;simp at h
  have h6:∃ t,killMarks H.lo H₁.objs bl.marks=some t∧∃ vs,resultsV E {objs:=t,grps:=H₁.grps,next:=H₁.next,lo:=H₁.lo} bl.T fn.results.toList=some vs∧v=jA vs∧H'={objs:=t,grps:=H₁.grps,next:=H₁.next,lo:=H₁.lo}:=by
   cases ex with
   |exit id=>exact absurd rfl (h5 id)
   |_=>
    simp only[we,Tr.force_eq,wi,wk]at h
    obtain⟨t,a1,vs,a2,a3,a4⟩:=h
    exact⟨t,a1,vs,a2,a3.symm,a4.symm⟩
  obtain⟨t,a1,vs,a2,rfl,rfl⟩:=h6
  exact S1 hE bG k1 k2 (by simpa using k3) k4 h5 a1 a2 hR hl
 unfold target at h1
 split at h1
 ·rename_i g first captured
  simp only[wi,wk]at h1
  cases hf with
  |func cG pk tF ra rb=>
   rename_i f₁ gj qs
   simp only[FnRel]at cG
   subst cG
   simp only[Deferred.ofValue,wB,wC,wu,invoke]
   exact F0 g _ _ h1.1.symm h1.2.symm (by simpa using LRel.append (LRel.append ⟨pk,ra⟩ ha) ⟨tF,rb⟩)
 ·rename_i l first captured
  simp only[wi,wk]at h1
  obtain⟨rfl,rfl⟩:=h1
  cases hf with
  |func cG pk tF ra rb=>
   rename_i f₁ gj qs
   obtain⟨p,hm,rfl⟩:=cG
   have pn:LRel m (first.toList++args) (gj++bI).toList:=by simpa using LRel.append ⟨pk,ra⟩ ha
   simp only[Deferred.ofValue,wB,wC,wu,invoke]
   simp only at h
   split at h
   ·rename_i fK size T ps assign body de dg
    obtain⟨k1,h⟩:=cD h
    have an:H.lo≤l:=by simpa using k1
    simp only[we]at h
    obtain⟨T',k2,⟨cI,dV,H₁⟩,k3,h⟩:=h
    cases cI with
    |normal=>
     simp only[we]at h
     obtain⟨H₂,k4,⟨ex,tC,H₃⟩,k5,h⟩:=h
     cases ex with
     |normal=>
      simp only[we,wi,wk]at h
      obtain⟨H₄,k6,rfl,rfl⟩:=h
      exact FX bG hm an dg k2 k3 k4 k5 k6 (.inl ⟨rfl,rfl,rfl,rfl⟩) hR pn
     |ret=>
      simp only[we,wi,wk]at h
      obtain⟨H₄,k6,rfl,rfl⟩:=h
      exact FX bG hm an dg k2 k3 k4 k5 k6 (.inr (.inl ⟨rfl,rfl,rfl,rfl⟩)) hR pn
     |exit id=>
      simp only[we,wi,wk]at h
      obtain⟨H₄,k6,rfl,rfl⟩:=h
      exact FX bG hm an dg k2 k3 k4 k5 k6 (.inr (.inr ⟨id,rfl,rfl,rfl,rfl⟩)) hR pn
    |_=>simp at h
   ·simp at h
 ·rename_i t path g pt first captured
  obtain⟨k1,dS⟩:=cn h1
  clear h1
  simp only[wA,List.isEmpty_iff]at k1
  obtain⟨⟨k1,k2⟩,k3⟩:=k1
  subst k2
  cases hf with
  |func cG pk tF ra rb=>
   rename_i f₁ gj qs
   simp only[FnRel]at cG
   subst cG
   have hl:LRel m (first.toList++args) (gj++bI).toList:=by simpa using LRel.append ⟨pk,ra⟩ ha
   cases hc:first.toList++args with
   |nil=>rw[hc]at dS;simp at dS
   |cons x l=>
    rw[hc]at dS hl
    simp only[wi,wk]at dS
    obtain⟨x',r',e1,e2,e3⟩:=hl.oC
    have hi:∃ i e,E.ty.get t=some i∧i.desc= .pointer e:=by
     split at k3
     ·rename_i i hi
      split at k3
      ·rename_i e he
       exact⟨i,e,hi,he⟩
      ·simp at k3
     ·simp at k3
    obtain⟨i,e,hi,hd⟩:=hi
    have h0:(gj++bI)[0]? =some x':=by rw[←wao,e1];rfl
    have hx: #[x']++(gj++bI).extract 1 (gj++bI).size=gj++bI:=by
     apply wcJ
     have bf:(gj++bI).size=r'.length+1:=by rw[←waF,e1];rfl
     rw[bf,wbV,Array.toList_extract,e1,List.extract_eq_take_drop]
     simp
    have:=F0 g _ (gj++bI) dS.1.symm dS.2.symm (by rw[e1];exact .cons e2 e3)
    simpa only[Deferred.ofValue,wB,wC,wu,invoke,h0,S5 hE hi hd k1,hx]using this
 ·rename_i name first captured
  cases hf with
  |func cG pk tF ra rb=>
   rename_i f₁ gj qs
   simp only[FnRel]at cG
   subst cG
   have hl:LRel m (first.toList++args) (gj++bI).toList:=by simpa using LRel.append ⟨pk,ra⟩ ha
   cases hc:first.toList++args with
   |nil=>rw[hc]at h1;simp at h1
   |cons x l=>
    rw[hc]at h1 hl
    simp only[we,wi,wk]at h1
    obtain⟨⟨g,rv⟩,h2,h3,h4⟩:=h1
    obtain⟨x',r',e1,e2,e3⟩:=hl.oC
    obtain⟨t,u,tG,f1,f2,f3⟩:=K0 hE h2 e2
    have h0:(gj++bI)[0]? =some x':=by rw[←wao,e1];rfl
    have hx:(#[tG]++(gj++bI).extract 1 (gj++bI).size).toList=tG::r':=by
     have bf:(gj++bI).size=r'.length+1:=by rw[←waF,e1];rfl
     rw[bf,wbV,Array.toList_extract,e1,List.extract_eq_take_drop]
     simp
    have:=F0 g _ (#[tG]++(gj++bI).extract 1 (gj++bI).size) h3.symm h4.symm (by rw[hx];exact .cons f3 e3)
    have hP:(program:Sem Program).run E.P w= .ok E.P w:=rfl
    subst f1
    simpa only[Deferred.ofValue,wB,wC,wu,invoke,h0,callMethod,hP,show E.P.types.size+Made.depth=(E.P.types.size+99)+1 from rfl,f2]using this
 ·simp at h1
structure OrcOk(E:Env):Prop where
 De:∀ B lo0,qp B lo0 E E.orc
 low:nK E.orc
theorem OrcOk.none{P:Program}:OrcOk (Env.of P):=⟨fun _ _ _ _ _ _ _ h=>(by cases h),fun _ _ _ _ _ _ h=>(by cases h)⟩
theorem F1(hE:EnvOk E)(hO:OrcOk E){run:Code→Fr→Heap→Option (Ex×Fr×Heap)}(bG:oD E run):qp B lo0 E (fQ E run):=by
 intro f args H v H' h
 unfold fQ at h
 cases ho:E.orc f args H with
 |some r=>
  rw[ho]at h
  simp only[wi]at h
  subst h
  exact hO.De B lo0 f args H v H' ho
 |none=>
  rw[ho]at h
  exact FZ hE bG f args H v H' h
end
section
variable[Maps]{H H':Heap}{E:Env}
theorem Lu{v:Value}{t:Tmp}:∀ {l:List Tmp} {T:Tr Value},(dropAll l T).get t=some v→t∉l∧T.get t=some v
 |[],T,h=>⟨by simp,h⟩
 |x::l,T,h=>by
  obtain⟨h1,h2⟩:=Lu (l:=l) h
  obtain⟨h3,h4⟩:=Tr.jf h2
  exact⟨by simp[h1,h3],h4⟩
theorem Lv{t:Tmp}(ht:Maps.low t):∀ {l:List Tmp} {T:Tr Value},t∉l→(dropAll l T).get t=T.get t
 |[],T,h=>rfl
 |x::l,T,h=>by
  simp only[wad,not_or]at h
  rw[dropAll,Lv ht h.2,Tr.vv h.1 ht]
end
section
variable{B lo0:Nat}{m:Match}{w:World}{P:Program}
theorem Lw{t:Tmp}:∀ {l:List Operand},Operand.tmp t∈l→t∈tmpsOf l
 |x::l,h=>by
  rcases wad.1 h with h|h
  ·subst h;simp[tmpsOf]
  ·have:=Lw h
   cases x<;>simp[tmpsOf,this]
end
section
variable[Maps]{H H':Heap}{E:Env}
theorem DB{T T':Tr Value}:∀ {l:List Operand},(∀x∈l,ev T x=ev T' x)→evs T l=evs T' l
 |[],_=>rfl
 |x::l,h=>by
  simp only[evs,h x (wW ..),DB fun y hy=>h y (wM _ hy)]
theorem G0{T T':Tr Value}{place:Nat→Option (Nat×Nat)}:∀ {l:List (Nat×Operand)},(∀p∈l,ev T p.2=ev T' p.2)→evParts T place l=evParts T' place l
 |[],_=>rfl
 |(i,x)::l,h=>by
  have h1:=h (i,x) (wW ..)
  simp only at h1
  simp only[evParts,h1,G0 fun y hy=>h y (wM _ hy)]
theorem G1{T T':Tr Value}{x:Option Operand}(h:∀ y,x=some y→ev T y=ev T' y):evO T x=evO T' x:=by
 cases x with
 |none=>rfl
 |some y=>simp only[evO,h y rfl]
theorem Vb{T T':Tr Value}{t:TypeId}{l:List (Nat×Operand)}(h:∀ p∈l,ev T p.2=ev T' p.2):gD E T t l=gD E T' t l:=by
 simp only[gD,G0 h]
theorem Ua{call:cT}{T T':Tr Value}{o:Oper}(h:∀ x∈o.op.operands.toList,ev T x=ev T' x):exOp E call T o H=exOp E call T' o H:=by
 unfold exOp
 cases ho:o.op<;>simp only[ho,Op.operands,Call.operands]at h
 case build t ps=>simp only[Vb (E:=E) (t:=t) (l:=ps.toList) fun p hp=>h p.2 (List.mem_map_of_mem hp)]
 case buildSlice t n ps=>
  have:∀ pl,evParts T pl ps.toList=evParts T' pl ps.toList:=fun pl=>G0 fun p hp=>h p.2 (List.mem_map_of_mem hp)
  simp only[this]
 case makeFunc fn a b=>simp only[DB (l:=a.toList) fun x hx=>h x (by rw[wbV];exact waI.2 (.inl hx)),DB (l:=b.toList) fun x hx=>h x (by rw[wbV];exact waI.2 (.inr hx))]
 case slice t x l hi m=>simp only[h x (by simp),G1 (x:=l) fun y hy=>h y (by simp[hy]),G1 (x:=hi) fun y hy=>h y (by simp[hy]),G1 (x:=m) fun y hy=>h y (by simp[hy])]
 case makeMap t r=>cases r<;>rfl
 case next x b=>cases b<;>simp only[h x (by simp)]
 case call c=>
  simp only[DB (l:=c.args.toList) fun x hx=>h x (by rw[wbV];exact waI.2 (.inr hx))]
  cases hc:c.callee with
  |builtin b=>rfl
  |value f=>simp only[h f (by simp[hc])]
  |invoke x m=>simp only[h x (by simp[hc])]
 all_goals first
  |rfl
  |(rename_i x;simp only[h x (by simp)];done)
  |(rename_i x y;simp only[h x (by simp),h y (by simp)];done)
  |(rename_i x y;simp only[h x (by simp)];done)
  |(rename_i x y;simp only[h y (by simp)];done)
  |(rename_i x y z;simp only[h x (by simp),h y (by simp),h z (by simp)];done)
  |(rename_i x y z;simp only[h y (by simp),h z (by simp)];done)
  |(rename_i x y z;simp only[h x (by simp),h y (by simp)];done)
  |(rename_i x y z;simp only[h y (by simp)];done)
  |(rename_i x y z u;simp only[h y (by simp),h z (by simp),h u (by simp)];done)
  |(rename_i x y z u;simp only[h y (by simp),h z (by simp)];done)
theorem Lr{call:cT}{T:Tr Value}{o:Oper}{v:Value}(hk:kindOf o.op= .pure)(h:exOp E call T o H=some (v,H')):H'=H∧∀ Hx,exOp E call T o Hx=some (v,Hx):=by
 unfold exOp at h⊢
 cases ho:o.op<;>simp only[ho,kindOf,reduceCtorEq]at hk h⊢
 case convert s d x=>
  cases hb:Nat.beq s BT with
  |true=>rw[hb]at hk;cases hk
  |false=>
   simp only[qu,hb,we,wi,wk,wS]at h⊢
   obtain⟨u,h1,u2,h2,rfl,rfl⟩:=h
   simp[h1,h2]
 case pick c a b=>
  simp only[we]at h
  obtain⟨u,h1,h⟩:=h
  simp only[h1,wo]
  split at h
  all_goals first
   |(simp only[we,wi,wk]at h;obtain⟨u,h2,rfl,rfl⟩:=h;simp[h2])
   |simp at h
 case nilCheck x=>
  simp only[we]at h
  obtain⟨u,h1,h⟩:=h
  simp only[h1,wo]
  split at h
  all_goals first
   |(simp only[wi,wk]at h;obtain⟨rfl,rfl⟩:=h;simp)
   |(simp at h;done)
   |(split at h
     ·simp only[we,wi,wk]at h
      obtain⟨mm,h2,rfl,rfl⟩:=h
      simp[*]
     ·simp at h)
 case makeInterface t x=>
  simp only[we]at h
  obtain⟨u,h1,i,h2,h⟩:=h
  simp only[h1,h2,wo]
  split at h
  ·simp at h
  ·simp at h
  ·simp only[wi,wk]at h;obtain⟨rfl,rfl⟩:=h;simp
 case makeFunc fn a b=>
  cases fn<;>simp only[we,wi,wk,reduceCtorEq]at h⊢
  all_goals(obtain⟨u,h1,u2,h2,rfl,rfl⟩:=h;simp[h1,h2])
 case extract t i=>
  simp only[we]at h
  obtain⟨u,h1,h⟩:=h
  simp only[h1,wo]
  split at h
  ·simp only[we,wi,wk]at h;obtain⟨u,h2,rfl,rfl⟩:=h;simp[h2]
  ·simp at h
 case call c=>
  simp only[we]at h
  obtain⟨args,h1,h⟩:=h
  simp only[h1,wo]
  cases hc:c.callee with
  |value f=>simp[hc]at hk
  |invoke x m=>simp[hc]at hk
  |builtin b=>
   simp only[hc]at hk h⊢
   cases b<;>simp only[reduceCtorEq]at hk
   ·unfold builtinV at h⊢
    cases args with
    |nil=>simp at h
    |cons x l=>
     simp only[we,wi,wk]at h⊢
     obtain⟨u,h2,rfl,rfl⟩:=h;simp[h2]
   ·unfold builtinV at h⊢
    cases args with
    |nil=>simp at h
    |cons x l=>
     simp only[we,wi,wk]at h⊢
     obtain⟨u,h2,rfl,rfl⟩:=h;simp[h2]
 all_goals first
  |(simp at h;done)
  |(simp only[we,wi,wk]at h;obtain⟨u,h1,rfl,rfl⟩:=h;simp[h1];done)
  |(simp only[we,wi,wk]at h;obtain⟨u,h1,u2,h2,rfl,rfl⟩:=h;simp[h1,h2];done)
  |(simp only[we,wi,wk]at h;obtain⟨u,h1,u2,h2,u3,h3,rfl,rfl⟩:=h;simp[h1,h2,h3];done)
def uU(o:AObj):Prop:=∀ c g t,o≠ .row c (some g) t
theorem TA{call:cT}{T:Tr Value}{o:Oper}{v:Value}(hk:kindOf o.op= .alloc)(h:exOp E call T o H=some (v,H')):
  ∃ob,uU ob∧H'=H.add ob∧∀ Hx,Hx.next=H.next→exOp E call T o Hx=some (v,Hx.add ob):=by
 have row:∀ {x:Value} {cells:List Value},some (x,H.newRow cells)=some (v,H')→v=x∧uU (.row cells none true)∧H'=H.add (.row cells none true):=fun h=>by
  simp only[wi,wk]at h
  exact⟨h.1.symm,fun c g t h=>by simp at h,h.2.symm⟩
 unfold exOp at h⊢
 cases ho:o.op<;>simp only[ho,kindOf,reduceCtorEq]at hk h⊢
 case convert s d x=>cases hb:Nat.beq s BT<;>rw[hb]at hk<;>cases hk
 case alloc t=>
  simp only[we]at h
  obtain⟨i,h1,z,h2,h⟩:=h
  obtain⟨rfl,h3,h4⟩:=row h
  exact⟨_,h3,h4,fun Hx hx=>by simp only[h1,h2,wo,hx];rfl⟩
 case box t x=>
  simp only[we]at h
  obtain⟨i,h1,h⟩:=h
  obtain⟨rfl,h3,h4⟩:=row h
  exact⟨_,h3,h4,fun Hx hx=>by simp only[h1,wo,hx];rfl⟩
 case buildSlice t len parts=>
  simp only[we]at h
  obtain⟨i,h1,h⟩:=h
  simp only[h1,wo]
  split at h
  ·rename_i e hd
   simp only[we]at h
   obtain⟨j,h2,z,hz,h⟩:=h
   obtain⟨hb,h⟩:=cD h
   simp only[we]at h
   obtain⟨ps,h6,l,h7,h⟩:=h
   obtain⟨rfl,h3,h4⟩:=row h
   refine⟨_,h3,h4,fun Hx hx=>?_⟩
   simp only[h2,hz,wo,hb,wS,h6,h7,hx];rfl
  ·simp at h
 case makeMap t r=>
  cases r with
  |some x=>simp at h
  |none=>
   simp only[wi,wk]at h⊢
   obtain⟨rfl,rfl⟩:=h
   exact⟨_,fun c g t h=>by simp at h,rfl,fun Hx hx=>⟨by rw[hx],rfl⟩⟩
 case makeSlice t l c=>
  simp only[we]at h
  obtain⟨u,h1,u2,h2,h⟩:=h
  simp only[h1,h2,wo]
  unfold makeSliceV at h⊢
  simp only[we]at h
  obtain⟨i,h3,h⟩:=h
  simp only[h3,wo]
  split at h
  ·rename_i e k1 l1 k2 c1 hd
   cases l1 with
   |negSucc n=>simp at h
   |ofNat l1=>
    cases c1 with
    |negSucc n=>simp at h
    |ofNat c1=>
     simp only[we]at h
     obtain⟨j,h5,z,h6,h⟩:=h
     obtain⟨hb,h⟩:=cn h
     obtain⟨rfl,h7,h8⟩:=row h
     refine⟨_,h7,h8,fun Hx hx=>?_⟩
     simp only[h5,h6,wo,hb,wai,hx];rfl
  ·simp at h
 case call c=>
  cases hc:c.callee with
  |builtin b=>cases b<;>simp[hc]at hk
  |_=>simp[hc]at hk
def rowOfV:Value→Option Nat
 | .pointer (some a)=>some a.block
 | .slice (some a) _ _=>some a.block
 | .map (some r)=>some r
 |_=>none
def loadsFrom:Op→Option Operand
 | .load _ x=>some x
 | .lookup _ x _ _=>some x
 | .slice _ x _ _ _=>some x
 | .call c=>c.args.toList.head?
 |_=>none
end
section
variable{B lo0:Nat}{m:Match}{w:World}{P:Program}
theorem Ug{o:Op}{x:Operand}(h:loadsFrom o=some x):x∈o.operands.toList:=by
 cases o<;>simp only[loadsFrom,reduceCtorEq,wi]at h
 ·subst h;simp[Op.operands]
 ·subst h;simp[Op.operands]
 ·subst h;simp[Op.operands]
 ·rename_i c
  simp only[Op.operands,Call.operands,wbV,waI]
  exact .inr (List.mem_of_head? h)
end
section
variable[Maps]{H H':Heap}{E:Env}
theorem Ge{call:cT}{T:Tr Value}{o:Oper}{v:Value}(hk:kindOf o.op= .load)(h:exOp E call T o H=some (v,H')):
  H'=H∧((∀Hx,exOp E call T o Hx=some (v,Hx))∨∃ x u r ob,loadsFrom o.op=some x∧ev T x=some u∧rowOfV u=some r∧H.objs.get r=some ob∧∀ Hx:Heap,Hx.objs.get r=some ob→exOp E call T o Hx=some (v,Hx)):=by
 unfold exOp at h⊢
 cases ho:o.op<;>simp only[ho,kindOf,reduceCtorEq]at hk h⊢
 case convert s d x=>cases hb:Nat.beq s BT<;>rw[hb]at hk<;>cases hk
 case load t x=>
  simp only[we,wi,wk]at h
  obtain⟨u,h1,u2,h2,rfl,rfl⟩:=h
  refine⟨rfl,.inr ?_⟩
  unfold loadV at h2
  split at h2
  ·rename_i r o'
   split at h2
   ·rename_i cells g t' hr
    refine⟨x,_,r,_,rfl,h1,rfl,hr,fun Hx hx=>?_⟩
    simp only[h1,wo,loadV,hx,h2]
   ·simp at h2
  ·simp at h2
 case lookup t x k ok=>
  simp only[we,wi,wk]at h
  obtain⟨u,h1,u3,h3,u2,h2,rfl,rfl⟩:=h
  refine⟨rfl,?_⟩
  simp only[h1,h3,wo]
  unfold lookupV at h2⊢
  simp only[we]at h2
  obtain⟨i,h4,h2⟩:=h2
  simp only[h4,wo]
  split at h2
  ·rename_i kt et hd
   obtain⟨hb,h2⟩:=cD h2
   simp only[we]at h2
   obtain⟨es,h5,h2⟩:=h2
   have eo:=we.2 h2
   split at h5
   ·simp only[wi]at h5
    subst h5
    left
    intro Hx
    simp only[hb,wS,wo,eo]
   ·rename_i r
    split at h5
    ·rename_i bb hr
     simp only[wi]at h5
     subst h5
     right
     refine⟨x,_,r,_,rfl,h1,rfl,hr,fun Hx hx=>?_⟩
     simp only[hb,wS,hx,wo,eo]
    ·rename_i bb c' hr
     simp only[wi]at h5
     subst h5
     right
     refine⟨x,_,r,_,rfl,h1,rfl,hr,fun Hx hx=>?_⟩
     simp only[hb,wS,hx,wo,eo]
    ·simp at h5
   ·simp at h5
  ·simp at h2
 case slice t x lo hi mx=>
  simp only[we,wi,wk]at h
  obtain⟨u,h1,u2,h2,u3,h3,u4,h4,u5,h5,rfl,rfl⟩:=h
  refine⟨rfl,?_⟩
  simp only[h1,h2,h3,h4,wo]
  unfold sliceV at h5⊢
  simp only[we]at h5
  obtain⟨i,h6,h5⟩:=h5
  simp only[h6,wo]
  split at h5
  ·left
   intro Hx
   simp[h5]
  ·rename_i r o' len cap hd
   obtain⟨hb,h5⟩:=cD h5
   simp only[we]at h5
   obtain⟨b,h7,z,h8,h5⟩:=h5
   split at h5
   ·rename_i hr
    refine .inr ⟨x,_,r,_,rfl,h1,rfl,hr,fun Hx hx=>?_⟩
    simp only[hb,wS,h7,h8,hx,wo,h5]
   ·rename_i hr
    refine .inr ⟨x,_,r,_,rfl,h1,rfl,hr,fun Hx hx=>?_⟩
    simp only[hb,wS,h7,h8,hx,wo,h5]
   ·simp at h5
  ·left
   intro Hx
   simp[h5]
  ·rename_i r o' hd
   simp only[we]at h5
   obtain⟨b,h7,z,h8,h5⟩:=h5
   split at h5
   ·rename_i hr
    refine .inr ⟨x,_,r,_,rfl,h1,rfl,hr,fun Hx hx=>?_⟩
    simp only[h7,h8,hx,wo,h5]
   ·simp at h5
  ·simp at h5
 case call c=>
  cases hc:c.callee with
  |value f=>simp[hc]at hk
  |invoke x m=>simp[hc]at hk
  |builtin b=>
   cases b<;>simp only[hc,reduceCtorEq]at hk
   simp only[hc,we]at h⊢
   obtain⟨args,h1,h⟩:=h
   unfold builtinV at h⊢
   cases mS:c.argTypes.toList with
   |nil=>rw[mS]at h;simp at h
   |cons t tl=>
    cases args with
    |nil=>rw[mS]at h;simp at h
    |cons x l=>
     rw[mS]at h
     simp only[we]at h
     obtain⟨i,h2,h⟩:=h
     simp only[h1]
     have hx:∃ y,loadsFrom (.call c)=some y∧ev T y=some x:=by
      simp only[loadsFrom]
      cases ha:c.args.toList with
      |nil=>rw[ha]at h1;simp[evs]at h1
      |cons y ys=>
       rw[ha]at h1
       simp only[evs,we,wi,wbQ]at h1
       obtain⟨u,h3,r,_,rfl,_⟩:=h1
       exact⟨y,rfl,h3⟩
     split at h
     ·simp only[wi,wk]at h;obtain⟨rfl,rfl⟩:=h;exact⟨rfl,.inl fun Hx=>by simp[*]⟩
     ·simp only[wi,wk]at h;obtain⟨rfl,rfl⟩:=h;exact⟨rfl,.inl fun Hx=>by simp[*]⟩
     ·simp only[wi,wk]at h;obtain⟨rfl,rfl⟩:=h;exact⟨rfl,.inl fun Hx=>by simp[*]⟩
     ·simp only[wi,wk]at h;obtain⟨rfl,rfl⟩:=h;exact⟨rfl,.inl fun Hx=>by simp[*]⟩
     ·rename_i r _
      split at h
      ·rename_i es hr
       simp only[wi,wk]at h
       obtain⟨rfl,rfl⟩:=h
       obtain⟨y,Vc,Vd⟩:=hx
       exact⟨rfl,.inr ⟨y,_,r,_,Vc,Vd,rfl,hr,fun Hx hx=>by simp[*]⟩⟩
      ·simp at h
     ·simp at h
end
section
variable[Maps]{E:Env}
def dy(ops:Array Oper)(i j:Nat):Prop:=((Region.before ops).toList.getD i 0).testBit j=true
end
section
variable{B lo0:Nat}{m:Match}{w:World}{P:Program}
theorem NG(acc:Array Nat)(j:Nat):∀ (l:List Edge) (s:Nat),(l.foldl (fun s e=>if Region.binds .any e then s|||2^e.on|||acc.getD e.on 0 else s) s).testBit j=true→
  s.testBit j=true∨∃ e∈l,Region.binds .any e=true∧(e.on=j∨(acc.getD e.on 0).testBit j=true)
 |[],s,h=> .inl h
 |e::l,s,h=>by
  rcases NG acc j l _ h with h1|⟨e',h1,h2⟩
  ·dsimp only at h1
   split at h1
   ·rename_i hb
    simp only[Nat.testBit_or,wbR,wcR,wT]at h1
    rcases h1 with(h1|h1)|h1
    ·exact .inl h1
    ·exact .inr ⟨e,wW ..,hb,.inl h1⟩
    ·exact .inr ⟨e,wW ..,hb,.inr h1⟩
   ·exact .inl h1
  ·exact .inr ⟨e',wM _ h1,h2⟩
end
section
variable[Maps]{E:Env}
def pJ(acc:Array Nat)(o:Oper):Array Nat:=acc.push (o.after.foldl (fun s e=>if Region.binds .any e then s|||2^e.on|||acc.getD e.on 0 else s) 0)
end
section
variable{B lo0:Nat}{m:Match}{w:World}{P:Program}
theorem NH{A:Array Nat}{o:Oper}{k:Nat}(h:k<A.size):(pJ A o).getD k 0=A.getD k 0:=by
 unfold pJ
 rw[wax,wax,wbD,wI (by omega)]
theorem NI{A:Array Nat}{k j:Nat}(h:(A.getD k 0).testBit j=true):k<A.size:=by
 apply Nat.lt_of_not_le
 intro ck
 rw[wax,Array.getElem?_eq_none ck]at h
 simp at h
theorem NJ{A:Array Nat}{o:Oper}{k j:Nat}(h:(A.getD k 0).testBit j=true):((pJ A o).getD k 0).testBit j=true:=by
 rw[NH (NI h)];exact h
theorem Wm{A:Array Nat}{o:Oper}{j:Nat}(h:((pJ A o).getD A.size 0).testBit j=true):∃ e∈o.after.toList,Region.binds .any e=true∧(e.on=j∨(A.getD e.on 0).testBit j=true):=by
 unfold pJ at h
 rw[wax,wbD,wF rfl,wbr,←wcA]at h
 rcases NG A j _ _ h with h|h
 ·simp at h
 ·exact h
end
section
variable[Maps]{E:Env}
def sn(l:List Oper)(A:Array Nat):Prop:=A.size=l.length∧∀ i j,(A.getD i 0).testBit j=true→∃ o,l[i]? =some o∧∃ e∈o.after.toList,Region.binds .any e=true∧(e.on=j∨(A.getD e.on 0).testBit j=true)
end
section
variable{B lo0:Nat}{m:Match}{w:World}{P:Program}
theorem sn.step{l:List Oper}{A:Array Nat}(h:sn l A)(o:Oper):sn (l++[o]) (pJ A o):=by
 obtain⟨h1,h2⟩:=h
 refine⟨by simp[pJ,h1],fun i j kb=>?_⟩
 by_cases hi:i<A.size
 ·rw[NH hi]at kb
  obtain⟨o',h3,e,h4,h5,h6⟩:=h2 i j kb
  exact⟨o',by rw[waf (by omega)];exact h3,e,h4,h5,h6.imp id NJ⟩
 ·by_cases dU:i=A.size
  ·subst dU
   obtain⟨e,h4,h5,h6⟩:=Wm kb
   exact⟨o,by rw[h1,waB (wy _)];simp,e,h4,h5,h6.imp id NJ⟩
  ·have:=NI kb
   simp[pJ]at this
   omega
theorem sn.all:∀ (l l':List Oper) (A:Array Nat),sn l A→sn (l++l') (l'.foldl pJ A)
 |l,[],A,h=>by simpa using h
 |l,o::l',A,h=>by
  have:=sn.all (l++[o]) l' (pJ A o) (h.step o)
  simpa using this
theorem Wn(ops:Array Oper):Region.before ops=ops.toList.foldl pJ #[]:=by
 unfold Region.before
 rw[←wcA]
 rfl
theorem dy.inv{ops:Array Oper}{i j:Nat}(h:dy ops i j):∃ o,ops[i]? =some o∧∃ e∈o.after.toList,Region.binds .any e=true∧(e.on=j∨dy ops e.on j):=by
 have hd:∀ k,(Region.before ops).toList.getD k 0=(Region.before ops).getD k 0:=fun k=>by
  rw[wav,wax,wao]
 have hI:sn ops.toList (Region.before ops):=by
  rw[Wn]
  have:=sn.all [] ops.toList #[] ⟨rfl,fun i j h=>by simp at h⟩
  simpa using this
 unfold dy at h
 rw[hd]at h
 obtain⟨o,h1,e,h2,h3,h4⟩:=hI.2 i j h
 refine⟨o,by simpa using h1,e,h2,h3,h4.imp id fun h=>?_⟩
 unfold dy
 rw[hd];exact h
end
section
variable[Maps]{E:Env}
end
section
variable{B lo0:Nat}{m:Match}{w:World}{P:Program}
theorem HL(m k:Nat):tK m k=m.testBit k:=by
 unfold tK Nat.testBit
 have h1:Nat.land 1 (Nat.shiftRight m k)=1&&&(m>>>k):=rfl
 rw[h1,Nat.one_and_eq_mod_two]
 rcases Nat.mod_two_eq_zero_or_one (m>>>k)with h|h<;>rw[h]<;>rfl
theorem NK{t:Tmp}:∀ {l:List Tmp},tK (maskT l) t=true↔t∈l
 |[]=>by simp[maskT,HL]
 |x::l=>by
  have ih:=NK (t:=t) (l:=l)
  rw[HL]at ih⊢
  have h1:maskT (x::l)=(1<<<x)|||maskT l:=rfl
  rw[h1,Nat.testBit_or,wbR,ih,Nat.one_shiftLeft,wcR,wad]
  simp[eq_comm]
theorem NL{ns:Nat}{b:List Nat}{i:Nat}:∀ {l:List Oper} {n:Nat},tmpsOk ns b i l n=true→∀ k p t,l[k]? =some p→p.dst=some t→tK ns t=true→n+k=i∨ordered b i (n+k)=true
 |[],n,h,k,q,t,hq,hd,ht=>by simp at hq
 |p::l,n,h,0,q,t,hq,hd,ht=>by
  simp only[wQ,wi]at hq
  subst hq
  simp only[tmpsOk,hd,wA,wbR,wbt,wbp]at h
  rcases h.1 with(h1|h1)|h1
  ·rw[ht]at h1;cases h1
  ·exact .inl (by simpa using h1)
  ·exact .inr (by simpa using h1)
 |p::l,n,h,k+1,q,t,hq,hd,ht=>by
  simp only[tmpsOk,wA]at h
  have:=NL h.2 k q t (by simpa using hq) hd ht
  rwa [show n+1+k=n+(k+1) by omega]at this
theorem Eb{st:Bool}{b:List Nat}{i:Nat}:∀ {l:List Oper} {n:Nat},effOk st b i l n=true→∀ k p,l[k]? =some p→n+k≠i→ordered b i (n+k)=false→
  kindOf p.op≠ .store∧kindOf p.op≠ .call∧(kindOf p.op= .alloc→i<n+k)∧(kindOf p.op= .load→st=true→n+k<i∧∃ t,((∃ty,p.op= .load ty (.tmp t))∨∃ ty lo hi mx,p.op= .slice ty (.tmp t) lo hi mx)∧∀ k' q,k≤k'→l[k']? =some q→q.dst≠some t)
 |[],n,h,k,q,hq,aX,hf=>by simp at hq
 |p::l,n,h,0,q,hq,aX,hf=>by
  simp only[wQ,wi]at hq
  subst hq
  simp only[waX]at aX hf⊢
  simp only[effOk,hf,wA,wbR,wbp,wG,wck]at h
  have h1:=h.1.resolve_left aX
  cases hk:kindOf p.op<;>rw[hk]at h1<;>simp only[wG]at h1
  ·simp
  ·refine⟨by simp,by simp,fun _=>?_,by simp⟩
   exact wan h1
  ·refine⟨by simp,by simp,by simp,fun _ dt=>?_⟩
   simp only[dt,wa7,wct,wA]at h1
   refine⟨wan h1.1,?_⟩
   have h2:=h1.2
   have key:∀ t,(!mK p t&&l.all fun q=> !mK q t)=true→∀ k' r,0≤k'→(p::l)[k']? =some r→r.dst≠some t:=fun t h2 k' r _ hr hd=>by
    simp only[wA,waC,wbt]at h2
    cases k' with
    |zero=>
     simp only[wQ,wi]at hr
     subst hr
     have:=h2.1
     simp[mK,hd]at this
    |succ k'=>
     have:=h2.2 r (wag (by simpa using hr))
     simp[mK,hd]at this
   split at h2
   ·rename_i ty t bW
    exact⟨t,.inl ⟨ty,bW⟩,key t h2⟩
   ·rename_i ty t lo hi mx bW
    exact⟨t,.inr ⟨ty,lo,hi,mx,bW⟩,key t h2⟩
   ·simp at h2
 |p::l,n,h,k+1,q,hq,aX,hf=>by
  simp only[effOk,wA]at h
  have:=Eb h.2 k q (by simpa using hq) (by omega) (by rwa [show n+1+k=n+(k+1) by omega])
  rw[show n+1+k=n+(k+1) by omega]at this
  refine⟨this.1,this.2.1,this.2.2.1,fun h1 h2=>?_⟩
  obtain⟨h3,t,h4,h5⟩:=this.2.2.2 h1 h2
  refine⟨h3,t,h4,fun k' r gR hr=>?_⟩
  cases k' with
  |zero=>omega
  |succ k'=>exact h5 k' r (by omega) (by simpa using hr)
theorem Ec{b:List Nat}{i:Nat}:∀ {l:List Oper} {n k:Nat} {p:Oper},l[k]? =some p→n+k≠i→ordered b i (n+k)=false→kindOf p.op= .load→p.op∈nL b i l n
 |[],n,k,q,hq,aX,hf,hk=>by simp at hq
 |p::l,n,0,q,hq,aX,hf,hk=>by
  simp only[wQ,wi]at hq
  subst hq
  simp only[waX]at aX hf
  have:Nat.beq n i=false:=by cases h:Nat.beq n i;rfl;simp at h;exact absurd h aX
  simp[nL,this,hf,hk,isLoad]
 |p::l,n,k+1,q,hq,aX,hf,hk=>by
  have:=Ec (b:=b) (i:=i) (l:=l) (n:=n+1) (k:=k) (by simpa using hq) (by omega) (by rwa [show n+1+k=n+(k+1) by omega]) hk
  simp only[nL]
  cases Nat.beq n i||ordered b i n|| !isLoad (kindOf p.op)
  ·exact wM _ this
  ·exact this
theorem NM{b:List Nat}{i:Nat}:∀ {l:List Oper} {n:Nat} {ks:List (TypeId×Tmp×Tmp)},keepsOf b i l n=some ks→∀ k p,l[k]? =some p→n+k≠i→ordered b i (n+k)=false→kindOf p.op= .load→
  n+k<i∧∃ ty t d,p.op= .load ty (.tmp t)∧p.dst=some d∧(ty,t,d)∈ks∧(∀k' q,k≤k'→l[k']? =some q→q.dst≠some t)∧(∀k' q,k<k'→l[k']? =some q→q.dst≠some d)
 |[],n,ks,h,k,q,hq,aX,hf,hk=>by simp at hq
 |p::l,n,ks,h,0,q,hq,aX,hf,hk=>by
  simp only[wQ,wi]at hq
  subst hq
  simp only[waX]at aX hf⊢
  have hb:Nat.beq n i=false:=by cases h:Nat.beq n i;rfl;simp at h;exact absurd h aX
  simp only[keepsOf,hb,hf,hk,isLoad,wa7,Bool.or_self,wS]at h
  split at h
  ·rename_i ty t d bW hd
   obtain⟨h1,h2⟩:=cn h
   simp only[we,wi]at h2
   obtain⟨r,h3,rfl⟩:=h2
   simp only[wA,wbt,waC]at h1
   obtain⟨⟨h4,h5⟩,h6⟩:=h1
   refine⟨wan h4,ty,t,d,bW,hd,wW ..,fun k' q _ hq Ed=>?_,fun k' q gR hq Ed=>?_⟩
   ·cases k' with
    |zero=>
     simp only[wQ,wi]at hq
     subst hq
     simp[mK,Ed]at h5
    |succ k'=>
     have:=(h6 q (wag (by simpa using hq))).1
     simp[mK,Ed]at this
   ·cases k' with
    |zero=>omega
    |succ k'=>
     have:=(h6 q (wag (by simpa using hq))).2
     simp[mK,Ed]at this
  ·simp at h
 |p::l,n,ks,h,k+1,q,hq,aX,hf,hk=>by
  have Bi:l[k]? =some q:=by simpa using hq
  have key:∀ {uN},keepsOf b i l (n+1)=some uN→(∀x∈uN,x∈ks)→n+(k+1)<i∧∃ ty t d,q.op= .load ty (.tmp t)∧q.dst=some d∧(ty,t,d)∈ks∧(∀k' q,k+1≤k'→(p::l)[k']? =some q→q.dst≠some t)∧(∀k' q,k+1<k'→(p::l)[k']? =some q→q.dst≠some d):=fun h' hm=>by
   obtain⟨h1,ty,t,d,h2,h3,h4,h5,h6⟩:=NM h' k q Bi (by omega) (by rwa [show n+1+k=n+(k+1) by omega]) hk
   refine⟨by omega,ty,t,d,h2,h3,hm _ h4,fun k' q' gR Bi=>?_,fun k' q' gR Bi=>?_⟩
   ·cases k' with
    |zero=>omega
    |succ k'=>exact h5 k' q' (by omega) (by simpa using Bi)
   ·cases k' with
    |zero=>omega
    |succ k'=>exact h6 k' q' (by omega) (by simpa using Bi)
  simp only[keepsOf]at h
  cases hc:(Nat.beq n i||ordered b i n|| !isLoad (kindOf p.op))with
  |true=>rw[hc]at h;exact key h fun _ h=>h
  |false=>
   rw[hc]at h
   simp only[wS]at h
   split at h
   ·obtain⟨_,h2⟩:=cn h
    simp only[we,wi]at h2
    obtain⟨r,h3,rfl⟩:=h2
    exact key h3 fun _ h=>wM _ h
   ·simp at h
theorem NN{n i:Nat}:∀ {l:List Edge},edgesOk n i l=true→∀ e∈l,e.on<i∨((∃r,e.ground= .gcOnly r)∧e.on<n)
 |[],h,e,he=>by simp at he
 |x::l,h,e,he=>by
  simp only[edgesOk,wA]at h
  rcases wad.1 he with rfl|he
  ·have h1:=h.1
   split at h1
   ·rename_i r hg;exact .inr ⟨⟨r,hg⟩,wan h1⟩
   ·exact .inl (wan h1)
  ·exact NN h.2 e he
theorem NO{ops:List Oper}{b:List Nat}{n:Nat}:∀ {l:List Oper} {i:Nat} {r:List Info},uR ops b n l i=some r→∀ k o,l[k]? =some o→∃ bm,r[k]? =some bm∧infoAt ops b n (i+k) o=some bm
 |[],i,r,h,k,o',ho=>by simp at ho
 |o::l,i,r,h,0,o',ho=>by
  simp only[uR,we,wi]at h
  obtain⟨x,h1,r',h2,rfl⟩:=h
  simp only[wQ,wi]at ho
  subst ho
  exact⟨x,rfl,h1⟩
 |o::l,i,r,h,k+1,o',ho=>by
  simp only[uR,we,wi]at h
  obtain⟨x,h1,r',h2,rfl⟩:=h
  obtain⟨bm,h3,h4⟩:=NO h2 k o' (by simpa using ho)
  exact⟨bm,by simpa using h3,by rwa [show i+1+k=i+(k+1) by omega]at h4⟩
end
theorem NP{b:List Nat}{i:Nat}:∀ {l:List Oper} {n:Nat},lateOk b i l n=true→∀ (k:Nat) (p:Oper),l[k]? =some p→n+k≠i→ordered b i (n+k)=false→kindOf p.op= .load→i<n+k∧∃ ty x,p.op= .load ty x
 |[],n,_,k,p,hp,_,_,_=>by simp at hp
 |q::l,n,h,k,p,hp,h1,h2,h3=>by
  simp only[lateOk,wA]at h
  cases k with
  |zero=>
   simp only[wQ,wi]at hp
   subst hp
   rw[waX]at h1 h2⊢
   have e1:Nat.beq n i=false:=waK.2 fun e=>h1 (wbw e)
   have e3:isLoad (kindOf q.op)=true:=by rw[h3];rfl
   rw[e1,h2,e3]at h
   simp only[wa7,Bool.or_self,wct,wA]at h
   refine⟨wan h.1.1,?_⟩
   have h4:=h.1.2
   split at h4
   ·rename_i ty x hq;exact⟨ty,x,hq⟩
   ·cases h4
  |succ k=>
   have:=NP h.2 k p (by simpa using hp) (by omega) (by rw[show n+1+k=n+(k+1) by omega];exact h2) h3
   rw[show n+1+k=n+(k+1) by omega]at this
   exact this
theorem NQ{ops:List Oper}{b:List Nat}{n i:Nat}:∀ {l:List Oper} {m k:Nat} {o:Oper},l[k]? =some o→m+k<i+1→m+k<i→uQ n (m+k)=true→oF ops b n (m+k) o=true→ordered b (m+k) i=false→rN ops b n i l m≠[]
 |[],m,k,o,h,_,_,_,_,_=>by simp at h
 |q::l,m,k,o,h,h0,h1,h2,h3,h4=>by
  cases k with
  |zero=>
   simp only[wQ,wi]at h
   subst h
   rw[waX]at h1 h2 h3 h4
   have e1:Nat.blt m i=true:=wP h1
   simp[rN,e1,h2,h3,h4]
  |succ k=>
   have:=NQ (ops:=ops) (b:=b) (n:=n) (i:=i) (l:=l) (m:=m+1) (k:=k) (o:=o) (by simpa using h) (by omega) (by omega) (by rw[show m+1+k=m+(k+1) by omega];exact h2) (by rw[show m+1+k=m+(k+1) by omega];exact h3) (by rw[show m+1+k=m+(k+1) by omega];exact h4)
   unfold rN
   cases(Nat.blt m i&&uQ n m&&oF ops b n m q&& !ordered b m i)with
   |true=>simp
   |false=>simpa using this
section
variable[Maps]{E:Env}
def dP(o:Oper):Prop:=kindOf o.op= .store∨kindOf o.op= .call
structure Stat(ops:Array Oper)(a9:List Info):Prop where
 info:∀ (i:Nat) (o:Oper),ops[i]? =some o→∃ bm,a9[i]? =some bm
 rU:∀ (i:Nat) (o:Oper) (e:Edge),ops[i]? =some o→e∈o.after→e.on<i∨((∃r,e.ground= .gcOnly r)∧e.on<ops.size)
 tmps:∀ (i:Nat) (o:Oper) (n:Nat) (p:Oper) (t:Tmp),ops[i]? =some o→ops[n]? =some p→p.dst=some t→(o.dst=some t∨t∈looksOf ops.toList o)→n=i∨dy ops i n∨dy ops n i
 fR:∀ (i:Nat) (o:Oper) (n:Nat) (p:Oper),ops[i]? =some o→ops[n]? =some p→dP o→dP p→n=i∨dy ops i n∨dy ops n i
 Dl:∀ (i:Nat) (o:Oper) (n:Nat) (p:Oper),ops[i]? =some o→ops[n]? =some p→dP o→kindOf p.op= .alloc→n<i→dy ops i n
 grow:∀ (i:Nat) (o:Oper) (n:Nat) (p:Oper) (bm:Info),ops[i]? =some o→ops[n]? =some p→kindOf o.op= .call→kindOf p.op= .load→a9[i]? =some bm→¬ dy ops i n→¬ dy ops n i→bm.grow=true∨
  (n<i∧∃ ty t d,p.op= .load ty (.tmp t)∧p.dst=some d∧(ty,t,d)∈bm.cJ∧(∀(k:Nat) (q:Oper),n≤k→ops[k]? =some q→q.dst≠some t)∧(∀(k:Nat) (q:Oper),n<k→ops[k]? =some q→q.dst≠some d))∨
  (i<n∧(appOf o.op).isSome=true∧bm.apart≠[]∧(∃ty x,p.op= .load ty x)∧∀ gE,a9[n]? =some gE→gE.apart≠[])
 LL:∀ (i:Nat) (o:Oper) (n:Nat) (p:Oper) (bm:Info),ops[i]? =some o→ops[n]? =some p→kindOf o.op= .store→kindOf p.op= .load→a9[i]? =some bm→¬ dy ops i n→¬ dy ops n i→
  n<i∧p.op∈bm.apart∧∃ t,((∃ty,p.op= .load ty (.tmp t))∨∃ ty lo hi mx,p.op= .slice ty (.tmp t) lo hi mx)∧∀ (k:Nat) (q:Oper),n≤k→ops[k]? =some q→q.dst≠some t
 store:∀ (i:Nat) (o:Oper) (bm:Info),ops[i]? =some o→kindOf o.op= .store→a9[i]? =some bm→bm.grow=false
end
section
variable{B lo0:Nat}{m:Match}{w:World}{P:Program}
theorem dy.lt{ops:Array Oper}(he:∀ (i:Nat) (o:Oper) (e:Edge),ops[i]? =some o→e∈o.after→e.on<i∨((∃r,e.ground= .gcOnly r)∧e.on<ops.size)):∀ {i j:Nat},dy ops i j→j<i:=by
 intro i
 induction i using Nat.strongRecOn with
 |_ i ih=>
  intro j h
  obtain⟨o,h1,e,h2,h3,h4⟩:=h.inv
  have h5:e.on<i:=by
   rcases he i o e h1 (by simpa using h2)with h5|⟨⟨r,h5⟩,_⟩
   ·exact h5
   ·simp[Region.binds,h5]at h3
  rcases h4 with h4|h4
  ·omega
  ·have:=ih e.on h5 h4;omega
theorem NR{ops:Array Oper}{i n:Nat}:ordered (Region.before ops).toList i n=true↔dy ops i n∨dy ops n i:=by
 simp[ordered,dy,wbR]
theorem Ur{ops:Array Oper}{a9:List Info}(h:x7 ops=some a9):Stat ops a9∧gcOk ops.toList ops.size 20 0=true:=by
 unfold x7 at h
 obtain⟨h0,h⟩:=cn h
 have tW:∀ (i:Nat) (o:Oper),ops[i]? =some o→∃ bm,a9[i]? =some bm∧infoAt ops.toList (Region.before ops).toList ops.size i o=some bm:=fun i o ho=>by
  have:=NO h i o (by simpa using ho)
  simpa using this
 have lR:∀ (i:Nat) (o:Oper),ops[i]? =some o→∃ bm,a9[i]? =some bm∧edgesOk ops.size i o.after.toList=true∧tmpsOk (maskT ((match o.dst with|some d=>[d]|none=>[])++looksOf ops.toList o)) (Region.before ops).toList i ops.toList 0=true∧
   (match kindOf o.op with
   | .store=>effOk true (Region.before ops).toList i ops.toList 0=true∧bm={grow:=false,apart:=nL (Region.before ops).toList i ops.toList 0,cJ:=[]}
   | .call=>effOk false (Region.before ops).toList i ops.toList 0=true∧((∃ks,keepsOf (Region.before ops).toList i ops.toList 0=some ks∧bm={grow:=false,apart:=[],cJ:=ks})∨
     (oF ops.toList (Region.before ops).toList ops.size i o=true∧uQ ops.size i=true∧bm={grow:=false,apart:=nL (Region.before ops).toList i ops.toList 0,cJ:=[]})∨
     bm={grow:= !(nL (Region.before ops).toList i ops.toList 0).isEmpty,apart:=[],cJ:=[]})
   | .load=>bm={grow:=false,apart:=rN ops.toList (Region.before ops).toList ops.size i ops.toList 0,cJ:=[]}
   |_=>True):=fun i o ho=>by
  obtain⟨bm,h1,h2⟩:=tW i o ho
  unfold infoAt at h2
  obtain⟨h3,h4⟩:=cn h2
  rw[wA]at h3
  refine⟨bm,h1,h3.1,h3.2,?_⟩
  cases hk:kindOf o.op<;>rw[hk]at h4<;>simp only at h4⊢
  case load=>simp only[wi]at h4;exact h4.symm
  case store=>
   obtain⟨h5,h6⟩:=cn h4
   simp only[wi]at h6
   exact⟨h5,h6.symm⟩
  case call=>
   obtain⟨h5,h6⟩:=cn h4
   refine⟨h5,?_⟩
   split at h6
   ·rename_i ks yJ
    simp only[wi]at h6
    exact .inl ⟨ks,(cn yJ).2,h6.symm⟩
   ·cases hl:oF ops.toList (Region.before ops).toList ops.size i o with
    |true=>
     rw[hl]at h6
     simp only[wai,wi]at h6
     have jz:=hl
     unfold oF at jz
     rw[wA,wA]at jz
     exact .inr (.inl ⟨rfl,jz.1.1,h6.symm⟩)
    |false=>
     rw[hl]at h6
     simp only[wS,wi]at h6
     exact .inr (.inr h6.symm)
 have bW:∀ {n:Nat} {p:Oper},ops[n]? =some p→ops.toList[n]? =some p:=fun h=>by rw[wao];exact h
 have NS:∀ (i:Nat) (o:Oper),ops[i]? =some o→dP o→∃ st,effOk st (Region.before ops).toList i ops.toList 0=true∧(kindOf o.op= .store→st=true):=fun i o ho he=>by
  obtain⟨bm,h1,_,_,h4⟩:=lR i o ho
  rcases he with he|he<;>rw[he]at h4
  ·exact⟨true,h4.1,fun _=>rfl⟩
  ·exact⟨false,h4.1,fun h=>by rw[he]at h;cases h⟩
 have tX:∀ {i n:Nat},¬dy ops i n→¬ dy ops n i→ordered (Region.before ops).toList i n=false:=fun h1 h2=>by
  rw[←Bool.not_eq_true,NR];exact fun h=>h.elim h1 h2
 have NT:∀ (i:Nat) (o:Oper) (e:Edge),ops[i]? =some o→e∈o.after→e.on<i∨((∃r,e.ground= .gcOnly r)∧e.on<ops.size):=fun i o e ho he=>by
  obtain⟨bm,_,h2,_⟩:=lR i o ho
  exact NN h2 e (by simpa using he)
 have aX:∀ (i:Nat) (o:Oper) (n:Nat) (p:Oper),ops[i]? =some o→ops[n]? =some p→kindOf o.op≠kindOf p.op→n≠i:=fun i o n p ho hp hk h=>by
  subst h;rw[ho]at hp;cases hp;exact hk rfl
 refine⟨⟨fun i o ho=>?_,NT,?_,?_,?_,?_,?_,?_⟩,h0⟩
 ·obtain⟨bm,h1,_⟩:=tW i o ho;exact⟨bm,h1⟩
 ·intro i o n p t ho hp hd ht
  obtain⟨bm,_,_,h3,_⟩:=lR i o ho
  have:=NL h3 n p t (bW hp) hd (NK.2<|by
   rcases ht with ht|ht
   ·rw[ht];simp
   ·exact waI.2 (.inr ht))
  simp only[wau]at this
  rw[NR]at this
  exact this
 ·intro i o n p ho hp he mF
  by_cases oK:n=i
  ·exact .inl oK
  ·obtain⟨st,h1,_⟩:=NS i o ho he
   by_cases hd:dy ops i n∨dy ops n i
   ·exact .inr hd
   ·have:=Eb h1 n p (bW hp) (by simpa using oK) (by simpa using tX (fun h=>hd (.inl h)) (fun h=>hd (.inr h)))
    rcases mF with mF|mF
    ·exact absurd mF this.1
    ·exact absurd mF this.2.1
 ·intro i o n p ho hp he hk hlt
  obtain⟨st,h1,_⟩:=NS i o ho he
  by_cases hd:dy ops i n
  ·exact hd
  ·exfalso
   have iZ:¬ dy ops n i:=fun h=>by have:=h.lt NT;omega
   have:=Eb h1 n p (bW hp) (by simp;omega) (by simpa using tX hd iZ)
   have:=this.2.2.1 hk
   omega
 ·intro i o n p bm ho hp hk gR Bj h1 h2
  obtain⟨gE,h3,_,_,h4⟩:=lR i o ho
  rw[Bj]at h3
  cases h3
  rw[hk]at h4
  have oK:(0:Nat)+n≠i:=by simpa using aX i o n p ho hp (by rw[hk,gR];simp)
  have hf:ordered (Region.before ops).toList i (0+n)=false:=by simpa using tX h1 h2
  obtain⟨_,⟨ks,yJ,rfl⟩|⟨hl,bs,rfl⟩|rfl⟩:=h4
  ·obtain⟨a1,ty,t,d,a2,a3,a4,a5,a6⟩:=NM yJ n p (bW hp) oK hf gR
   exact .inr (.inl ⟨by omega,ty,t,d,a2,a3,a4,fun k q HM hq=>a5 k q HM (bW hq),fun k q HM hq=>a6 k q HM (bW hq)⟩)
  ·have jz:=hl
   unfold oF at jz
   rw[wA,wA]at jz
   have h5:=NP jz.2 n p (bW hp) oK hf gR
   rw[wau]at h5
   refine .inr (.inr ⟨h5.1,jz.1.2,fun vO=>?_,h5.2,fun gE Wo=>?_⟩)
   ·have:=Ec (b:=(Region.before ops).toList) (i:=i) (l:=ops.toList) (n:=0) (k:=n) (bW hp) oK hf gR
    dsimp only at vO
    rw[vO]at this
    cases this
   ·obtain⟨ziP,g1,_,_,g4⟩:=lR n p hp
    rw[Wo]at g1
    cases g1
    rw[gR]at g4
    simp only at g4
    rw[g4]
    exact NQ (k:=i) (o:=o) (bW ho) (by omega) (by rw[wau];exact h5.1) (by rw[wau];exact bs) (by rw[wau];exact hl) (by rw[wau];rw[wau]at hf;exact hf)
  left
  have:=Ec (b:=(Region.before ops).toList) (i:=i) (l:=ops.toList) (n:=0) (k:=n) (bW hp) oK hf gR
  simp only[wbt,List.isEmpty_eq_false_iff]
  intro vO
  rw[vO]at this
  cases this
 ·intro i o n p bm ho hp hk gR Bj h1 h2
  obtain⟨gE,h3,_,_,h4⟩:=lR i o ho
  rw[Bj]at h3
  cases h3
  rw[hk]at h4
  obtain⟨h5,rfl⟩:=h4
  have oK:(0:Nat)+n≠i:=by simpa using aX i o n p ho hp (by rw[hk,gR];simp)
  have hf:ordered (Region.before ops).toList i (0+n)=false:=by simpa using tX h1 h2
  obtain⟨h6,t,h7,h8⟩:=(Eb h5 n p (bW hp) oK hf).2.2.2 gR rfl
  exact⟨by omega,Ec (bW hp) oK hf gR,t,h7,fun k q hk hq=>h8 k q hk (bW hq)⟩
 ·intro i o bm ho hk Bj
  obtain⟨gE,h3,_,_,h4⟩:=lR i o ho
  rw[Bj]at h3
  cases h3
  rw[hk]at h4
  rw[h4.2]
end
section
variable[Maps]{E:Env}
end
section
variable{B lo0:Nat}{m:Match}{w:World}{P:Program}
theorem L2{md:Region.Mode}{ops:Array Oper}{cl:Array Bool}(Ee:Nat→Nat)(Wp:∀ (i:Nat) (o:Oper) (e:Edge),ops[i]? =some o→e∈o.after→Region.binds md e=true→e.on<ops.size∧Ee e.on<Ee i)
  (hr:Region.ready md ops cl=[]) (hs:cl.size=ops.size):∀ i,i<ops.size→cl.getD i true=true:=by
 have key:∀ n i,Ee i=n→i<ops.size→cl.getD i true=true:=by
  intro n
  induction n using Nat.strongRecOn with
  |_ n ih=>
   intro i hi hlt
   by_cases hl:cl.getD i true=true
   ·exact hl
   ·exfalso
    have lL:i∈Region.ready md ops cl:=mem_ready.2 ⟨by simpa using hl,ops[i],wa0 hlt,fun e he hb=>by
     obtain⟨h1,h2⟩:=Wp i ops[i] e (wa0 hlt) he hb
     have h3:=ih (Ee e.on) (by omega) e.on rfl h1
     have lN:e.on<cl.size:=by rw[hs];exact h1
     rw[wax,wa0 lN]at h3⊢
     simpa using h3⟩
    rw[hr]at lL
    cases lL
 exact fun i hi=>key _ i rfl hi
theorem NU{m:Nat}:∀ {l:List Edge},Ap m l=true→∀ e∈l,Region.binds .gc e=true→m.testBit e.on=true
 |[],h,e,he,hb=>by simp at he
 |x::l,h,e,he,hb=>by
  simp only[Ap,wA,wbR,wbt]at h
  rcases wad.1 he with rfl|he
  ·rcases h.1 with h1|h1
   ·exfalso
    unfold bindsGc at h1
    split at h1
    ·rename_i hg;simp[Region.binds,hg]at hb
    ·cases h1
   ·rw[←HL];exact h1
  ·exact NU h.2 e he hb
theorem Ef{ops:Array Oper}{cl:Array Bool}(hr:Region.ready .gc ops cl=[])(hs:cl.size=ops.size):∀ (l:List Oper) (i m:Nat),(∀k o,l[k]? =some o→ops[i+k]? =some o)→(∀j,m.testBit j=true→j<ops.size∧cl.getD j true=true)→
  ∀j,(gcPass l i m).testBit j=true→j<ops.size∧cl.getD j true=true
 |[],i,m,_,hm,j,hj=>hm j hj
 |o::l,i,m,hl,hm,j,hj=>by
  have fL:∀ k o,l[k]? =some o→ops[i+1+k]? =some o:=fun k o h=>by
   have:=hl (k+1) o (by simpa using h)
   rwa [show i+(k+1)=i+1+k by omega]at this
  have ho:ops[i]? =some o:=hl 0 o rfl
  simp only[gcPass]at hj
  cases hb:tK m i with
  |true=>rw[hb]at hj;exact Ef hr hs l (i+1) m fL hm j hj
  |false=>
   rw[hb]at hj
   simp only[wS,eU]at hj
   cases he:Ap m o.after.toList with
   |false=>rw[he]at hj;exact Ef hr hs l (i+1) m fL hm j hj
   |true=>
    rw[he]at hj
    simp only[wai]at hj
    refine Ef hr hs l (i+1) _ fL (fun q hq=>?_) j hj
    have h1:Nat.lor m (Nat.shiftLeft 1 i)=m|||(1<<<i):=rfl
    rw[h1,Nat.testBit_or,wbR,Nat.one_shiftLeft,wcR]at hq
    rcases hq with hq|hq
    ·exact hm q hq
    ·have Wq:i=q:=by simpa using hq
     subst Wq
     have hlt:i<ops.size:=(w0.1 ho).1
     refine⟨hlt,?_⟩
     by_cases hd:cl.getD i true=true
     ·exact hd
     ·exfalso
      have:i∈Region.ready .gc ops cl:=mem_ready.2 ⟨by simpa using hd,o,ho,fun e Wr gT=>by
       obtain⟨h2,h3⟩:=hm e.on (NU he e (by simpa using Wr) gT)
       have lN:e.on<cl.size:=by rw[hs];exact h2
       rw[wax,wa0 lN]at h3⊢
       simpa using h3⟩
      rw[hr]at this
      cases this
theorem L3{ops:Array Oper}{cl:Array Bool}(hr:Region.ready .gc ops cl=[])(hs:cl.size=ops.size):∀ (k m:Nat),gcOk ops.toList ops.size k m=true→(∀j,m.testBit j=true→j<ops.size∧cl.getD j true=true)→∀ i,i<ops.size→cl.getD i true=true
 |0,m,h,_,i,_=>by simp[gcOk]at h
 |k+1,m,h,hm,i,hi=>by
  simp only[gcOk,eU]at h
  have hp:=Ef hr hs ops.toList 0 m (fun k o h=>by rw[wau,←wao];exact h) hm
  cases hb:Nat.beq (gcPass ops.toList 0 m) (Nat.sub (Nat.shiftLeft 1 ops.size) 1)with
  |true=>
   have h1:gcPass ops.toList 0 m=2^ops.size-1:=by
    have h2:gcPass ops.toList 0 m=Nat.sub (Nat.shiftLeft 1 ops.size) 1:=by simpa using hb
    have h3:Nat.sub (Nat.shiftLeft 1 ops.size) 1=(1<<<ops.size)-1:=rfl
    rw[h2,h3,Nat.one_shiftLeft]
   exact(hp i (by rw[h1,Nat.testBit_two_pow_sub_one];simpa using hi)).2
  |false=>
   rw[hb]at h
   exact L3 hr hs k _ h hp i hi
end
section
variable[Maps]{E:Env}
theorem NV{T:Tr Value}{H H':Heap}(h:H.objs=H'.objs):∀ (ks:List (TypeId×Tmp×Tmp)),keepOk E T H ks=keepOk E T H' ks
 |[]=>rfl
 |(ty,t,d)::l=>by
  have:∀ a,loadV E H ty a=loadV E H' ty a:=fun a=>by unfold loadV;rw[h]
  simp only[keepOk,this,NV h l]
structure Text(E:Env)(call:cT)(all:List Oper)(size:Nat)(ops:List Oper)(a9:List Info)(T:Nat→Tr Value)(H:Nat→Heap)(v:Nat→Value)(wt:Nat→Bool):Prop where
 want:∀ i o,ops[i]? =some o→wantedA (T i) all o=some (wt i)
 put:∀ i o,ops[i]? =some o→gQ size (T i) o.dst (v i)=some (T (i+1))
 skip:∀ i o,ops[i]? =some o→wt i=false→v i=undef∧H (i+1)=H i
 done:∀ i o bm,ops[i]? =some o→a9[i]? =some bm→wt i=true→storeApart E (T i) (H i) o.op bm.apart=true∧
  ∃H',exOp E call (T i) o {objs:=(H i).objs,grps:=(H i).grps,next:=(H i).next,lo:=bif bm.grow then(H i).next else(H i).lo}=some (v i,H')∧H (i+1)={objs:=H'.objs,grps:=H'.grps,next:=H'.next,lo:=(H i).lo}
 kept:∀ i o bm,ops[i]? =some o→a9[i]? =some bm→wt i=true→keepOk E (T i) (H (i+1)) bm.cJ=true
def consF{α:Type}(x:α)(f:Nat→α):Nat→α
 |0=>x
 |n+1=>f n
theorem GC{call:cT}{all:List Oper}{size:Nat}:∀ {ops:List Oper} {a9:List Info} {T T':Tr Value} {H H':Heap},exDraw E call all size ops a9 T H=some (T',H')→
  ∃Tf Hf vf wf,Tf 0=T∧Hf 0=H∧Tf ops.length=T'∧Hf ops.length=H'∧Text E call all size ops a9 Tf Hf vf wf
 |[],a9,T,T',H,H',h=>by
  simp only[exDraw,wi,wk]at h
  exact⟨fun _=>T,fun _=>H,fun _=>undef,fun _=>false,rfl,rfl,h.1,h.2,⟨fun i o h=>by simp at h,fun i o h=>by simp at h,fun i o h=>by simp at h,fun i o bm h=>by simp at h,fun i o bm h=>by simp at h⟩⟩
 |o::ops,[],T,T',H,H',h=>by simp[exDraw]at h
 |o::ops,bm::a9,T,T',H,H',h=>by
  simp only[exDraw,ub]at h
  split at h
  ·simp at h
  ·rename_i hw
   obtain⟨ha,h⟩:=cn h
   simp only[we]at h
   obtain⟨r,h1,h⟩:=h
   obtain⟨HN,h⟩:=cn h
   simp only[we]at h
   obtain⟨T1,h2,h3⟩:=h
   obtain⟨Tf,Hf,vf,wf,e1,e2,e3,e4,e5⟩:=GC h3
   refine⟨consF T Tf,consF H Hf,consF r.1 vf,consF true wf,rfl,rfl,e3,e4,⟨?_,?_,?_,?_,?_⟩⟩
   ·intro i o' bJ
    cases i with
    |zero=>simp only[wQ,wi]at bJ;subst bJ;exact hw
    |succ i=>exact e5.want i o' (by simpa using bJ)
   ·intro i o' bJ
    cases i with
    |zero=>simp only[wQ,wi]at bJ;subst bJ;simp only[consF,e1,h2]
    |succ i=>exact e5.put i o' (by simpa using bJ)
   ·intro i o' bJ mV
    cases i with
    |zero=>simp[consF]at mV
    |succ i=>exact e5.skip i o' (by simpa using bJ) mV
   ·intro i o' gE bJ dU mV
    cases i with
    |zero=>
     simp only[wQ,wi]at bJ dU;subst bJ;subst dU
     exact⟨ha,r.2,h1,by simp only[consF,e2]⟩
    |succ i=>exact e5.done i o' gE (by simpa using bJ) (by simpa using dU) mV
   ·intro i o' gE bJ dU mV
    cases i with
    |zero=>
     simp only[wQ,wi]at bJ dU;subst bJ;subst dU
     simp only[consF,e2]
     rw[←HN]
     exact NV (H:={objs:=r.2.objs,grps:=r.2.grps,next:=r.2.next,lo:=H.lo}) (H':=r.2) rfl _
    |succ i=>exact e5.kept i o' gE (by simpa using bJ) (by simpa using dU) mV
  ·rename_i hw
   simp only[we]at h
   obtain⟨T1,h2,h3⟩:=h
   obtain⟨Tf,Hf,vf,wf,e1,e2,e3,e4,e5⟩:=GC h3
   refine⟨consF T Tf,consF H Hf,consF undef vf,consF false wf,rfl,rfl,e3,e4,⟨?_,?_,?_,?_,?_⟩⟩
   ·intro i o' bJ
    cases i with
    |zero=>simp only[wQ,wi]at bJ;subst bJ;exact hw
    |succ i=>exact e5.want i o' (by simpa using bJ)
   ·intro i o' bJ
    cases i with
    |zero=>simp only[wQ,wi]at bJ;subst bJ;simp only[consF,e1,h2]
    |succ i=>exact e5.put i o' (by simpa using bJ)
   ·intro i o' bJ mV
    cases i with
    |zero=>exact⟨rfl,e2⟩
    |succ i=>exact e5.skip i o' (by simpa using bJ) mV
   ·intro i o' gE bJ dU mV
    cases i with
    |zero=>simp[consF]at mV
    |succ i=>exact e5.done i o' gE (by simpa using bJ) (by simpa using dU) mV
   ·intro i o' gE bJ dU mV
    cases i with
    |zero=>simp[consF]at mV
    |succ i=>exact e5.kept i o' gE (by simpa using bJ) (by simpa using dU) mV
end
section
variable[Maps]{B lo0:Nat}{E:Env}
def below(m:Match)(n:Nat):Match:=fun r=>if r<n then m r else none
end
section
variable{B lo0:Nat}{m:Match}{w:World}{P:Program}
theorem dn{m:Match}{n r:Nat}{p:dO}:below m n r=some p↔r<n∧m r=some p:=by
 unfold below
 split
 ·simp_all
 ·simp only[reduceCtorEq,wa5,not_and]
  omega
theorem Uo(m:Match)(n:Nat):(below m n).le m:=fun _ _ h=>(dn.1 h).2
theorem AB(m:Match){n n':Nat}(h:n≤n'):(below m n).le (below m n'):=fun _ _ hr=>dn.2 ⟨wq (dn.1 hr).1 h,(dn.1 hr).2⟩
theorem rV{m m':Match}(h:m.le m')(n:Nat):(below m n).le (below m' n):=fun _ _ hr=>dn.2 ⟨(dn.1 hr).1,h _ _ (dn.1 hr).2⟩
end
section
variable[Maps]{B lo0:Nat}{E:Env}
structure jD(B lo0:Nat)(m:Match)(K:Nat→Nat→AObj→Prop)(G:Nat→List Nat→Prop)(w:World):Prop where
 base:B≤w.heap.size
 dom:∀ r p,m r=some p→p.ax<w.heap.size∧(lo0≤r→B≤p.ax)∧(r<lo0→p.ax<B)
 obj:∀ u r p o,m r=some p→K u r o→iP (decide (lo0≤r)) (below m u) p w o
 sep:∀ u u' r r' p p' o o',r≠r'→lo0≤r→m r=some p→m r'=some p'→K u r o→K u' r' o'→p.ax=p'.ax→Mates o o'
 dw:∀ u u' r r' p p' c c' g z z',m r=some p→m r'=some p'→K u r (.row c (some (g,z)) true)→K u' r' (.row c' (some (g,z')) true)→r=r'
 aT:∀ u r p c g z,m r=some p→K u r (.row c (some (g,z)) false)→∀ l,G g l→r∈l
 ends:∀ u u' r r' p p' c c' g z z' t,m r=some p→m r'=some p'→K u r (.row c (some (g,z)) true)→K u' r' (.row c' (some (g,z')) t)→p.ax=p'.ax→p'.base+c'.length≤p.base+c.length
 bK:∀ u r p c g z t,m r=some p→K u r (.row c (some (g,z)) t)→g<u
 fJ:GN≤B∧GL w
theorem jD.rel{m:Match}{K:Nat→Nat→AObj→Prop}{G:Nat→List Nat→Prop}{w:World}(h:jD B lo0 m K G w){H:Heap}{n:Nat}(an:lo0≤H.lo)(hn:H.lo≤H.next)(hN:n≤H.next)
  (hk:∀ r p o,m r=some p→r<n→H.objs.get r=some o→∃ u,u≤n∧K u r o) (hg:∀ g l,H.grps.get g=some l→G g l):Rel B lo0 (below m n) H w where
 base:=h.base
 fJ:=h.fJ
 lo:=an
 ag:=hn
 dom r p hr:=by
  obtain⟨h1,h2⟩:=dn.1 hr
  obtain⟨a,b,c⟩:=h.dom r p h2
  exact⟨by omega,a,b,c⟩
 obj r p o hr ho:=by
  obtain⟨h1,h2⟩:=dn.1 hr
  obtain⟨u,h3,h4⟩:=hk r p o h2 h1 ho
  exact(h.obj u r p o h2 h4).mono (AB m h3) rfl
 sep r r' p p' o o' aX hl hr cp ho bJ hb:=by
  obtain⟨h1,h2⟩:=dn.1 hr
  obtain⟨dS,eo⟩:=dn.1 cp
  obtain⟨u,_,h4⟩:=hk r p o h2 h1 ho
  obtain⟨u',_,AJ⟩:=hk r' p' o' eo dS bJ
  exact h.sep u u' r r' p p' o o' aX hl h2 eo h4 AJ hb
 dw r r' p p' c c' g z z' hr cp ho bJ:=by
  obtain⟨h1,h2⟩:=dn.1 hr
  obtain⟨dS,eo⟩:=dn.1 cp
  obtain⟨u,_,h4⟩:=hk r p _ h2 h1 ho
  obtain⟨u',_,AJ⟩:=hk r' p' _ eo dS bJ
  exact h.dw u u' r r' p p' c c' g z z' h2 eo h4 AJ
 aT r p c g z hr ho l hl:=by
  obtain⟨h1,h2⟩:=dn.1 hr
  obtain⟨u,_,h4⟩:=hk r p _ h2 h1 ho
  exact h.aT u r p c g z h2 h4 l (hg g l hl)
 ends r r' p p' c c' g z z' t hr cp ho bJ hb:=by
  obtain⟨h1,h2⟩:=dn.1 hr
  obtain⟨dS,eo⟩:=dn.1 cp
  obtain⟨u,_,h4⟩:=hk r p _ h2 h1 ho
  obtain⟨u',_,AJ⟩:=hk r' p' _ eo dS bJ
  exact h.ends u u' r r' p p' c c' g z z' t h2 eo h4 AJ hb
 bK r p c g z t hr ho:=by
  obtain⟨h1,h2⟩:=dn.1 hr
  obtain⟨u,h3,h4⟩:=hk r p _ h2 h1 ho
  have:=h.bK u r p c g z t h2 h4
  omega
theorem jD.LF{m:Match}{H:Heap}{w:World}(h:Rel B lo0 m H w):jD B lo0 m (fun u r o=>u=H.next∧H.objs.get r=some o) (fun g l=>H.grps.get g=some l) w where
 base:=h.base
 fJ:=h.fJ
 dom r p hr:=(h.dom r p hr).2
 obj u r p o hr ho:=by
  obtain⟨rfl,ho⟩:=ho
  exact(h.obj r p o hr ho).mono (fun r p hr=>dn.2 ⟨(h.dom r p hr).1,hr⟩) rfl
 sep u u' r r' p p' o o' aX hl hr cp ho bJ hb:=h.sep r r' p p' o o' aX hl hr cp ho.2 bJ.2 hb
 dw u u' r r' p p' c c' g z z' hr cp ho bJ:=h.dw r r' p p' c c' g z z' hr cp ho.2 bJ.2
 aT u r p c g z hr ho l hl:=h.aT r p c g z hr ho.2 l hl
 ends u u' r r' p p' c c' g z z' t hr cp ho bJ hb:=h.ends r r' p p' c c' g z z' t hr cp ho.2 bJ.2 hb
 bK u r p c g z t hr ho:=by
  obtain⟨rfl,ho⟩:=ho
  exact h.bK r p c g z t hr ho
theorem jD.Gm{m:Match}{K K':Nat→Nat→AObj→Prop}{G G':Nat→List Nat→Prop}{w:World}(h:jD B lo0 m K G w)(hk:∀ u r p o,m r=some p→K' u r o→∃ u',u'≤u∧K u' r o)(hg:∀ g l,G' g l→G g l):jD B lo0 m K' G' w where
 base:=h.base
 fJ:=h.fJ
 dom:=h.dom
 obj u r p o hr ho:=by
  obtain⟨u',h1,h2⟩:=hk u r p o hr ho
  exact(h.obj u' r p o hr h2).mono (AB m h1) rfl
 sep u u' r r' p p' o o' aX hl hr cp ho bJ hb:=by
  obtain⟨_,_,h2⟩:=hk u r p o hr ho
  obtain⟨_,_,eo⟩:=hk u' r' p' o' cp bJ
  exact h.sep _ _ r r' p p' o o' aX hl hr cp h2 eo hb
 dw u u' r r' p p' c c' g z z' hr cp ho bJ:=by
  obtain⟨_,_,h2⟩:=hk u r p _ hr ho
  obtain⟨_,_,eo⟩:=hk u' r' p' _ cp bJ
  exact h.dw _ _ r r' p p' c c' g z z' hr cp h2 eo
 aT u r p c g z hr ho l hl:=by
  obtain⟨_,_,h2⟩:=hk u r p _ hr ho
  exact h.aT _ r p c g z hr h2 l (hg g l hl)
 ends u u' r r' p p' c c' g z z' t hr cp ho bJ hb:=by
  obtain⟨_,_,h2⟩:=hk u r p _ hr ho
  obtain⟨_,_,eo⟩:=hk u' r' p' _ cp bJ
  exact h.ends _ _ r r' p p' c c' g z z' t hr cp h2 eo hb
 bK u r p c g z t hr ho:=by
  obtain⟨_,h1,h2⟩:=hk u r p _ hr ho
  have:=h.bK _ r p c g z t hr h2
  omega
theorem jD.extend{m m':Match}{K K':Nat→Nat→AObj→Prop}{G:Nat→List Nat→Prop}{w w':World}(h:jD B lo0 m K G w)(ck:m.le m')(bf:w.heap.size≤w'.heap.size)
  (gP:∀ b,b<w.heap.size→w'.heap[b]? =w.heap[b]?) (nI:∀ r p,m' r=some p→m r=none→lo0≤r∧w.heap.size≤p.ax∧p.ax<w'.heap.size) (LA:∀ r r' p p',m' r=some p→m r=none→m' r'=some p'→m r'=none→r=r')
  (hK:∀ u r p o,m' r=some p→K' u r o→(m r=some p∧K u r o)∨(m r=none∧uU o∧iP (decide (lo0≤r)) (below m' u) p w' o)):jD B lo0 m' K' G w' where
 base:=wK h.base bf
 fJ:=⟨h.fJ.1,L5 (fun b hb=>gP b (wq hb (wK h.fJ.1 h.base))) h.fJ.2⟩
 dom r p hr:=by
  cases hm:m r with
  |some q=>
   have:=ck r q hm
   rw[hr]at this;cases this
   obtain⟨a,b,c⟩:=h.dom r p hm
   exact⟨wq a bf,b,c⟩
  |none=>
   obtain⟨a,b,c⟩:=nI r p hr hm
   have:=h.base
   exact⟨c,fun _=>by omega,fun h=>by omega⟩
 obj u r p o hr ho:=by
  rcases hK u r p o hr ho with⟨h1,h2⟩|⟨_,_,h3⟩
  ·exact(h.obj u r p o h1 h2).mono (rV ck u) (gP _ (h.dom r p h1).1)
  ·exact h3
 sep u u' r r' p p' o o' aX hl hr cp ho bJ hb:=by
  rcases hK u r p o hr ho with⟨h1,h2⟩|⟨h1,_,_⟩<;>rcases hK u' r' p' o' cp bJ with⟨dS,eo⟩|⟨dS,_,_⟩
  ·exact h.sep u u' r r' p p' o o' aX hl h1 dS h2 eo hb
  ·have:=(h.dom r p h1).1
   have:=(nI r' p' cp dS).2.1
   omega
  ·have:=(h.dom r' p' dS).1
   have:=(nI r p hr h1).2.1
   omega
  ·exact absurd (LA r r' p p' hr h1 cp dS) aX
 dw u u' r r' p p' c c' g z z' hr cp ho bJ:=by
  rcases hK u r p _ hr ho with⟨h1,h2⟩|⟨_,h3,_⟩
  ·rcases hK u' r' p' _ cp bJ with⟨dS,eo⟩|⟨_,h3,_⟩
   ·exact h.dw u u' r r' p p' c c' g z z' h1 dS h2 eo
   ·exact absurd rfl (h3 _ _ _)
  ·exact absurd rfl (h3 _ _ _)
 aT u r p c g z hr ho l hl:=by
  rcases hK u r p _ hr ho with⟨h1,h2⟩|⟨_,h3,_⟩
  ·exact h.aT u r p c g z h1 h2 l hl
  ·exact absurd rfl (h3 _ _ _)
 ends u u' r r' p p' c c' g z z' t hr cp ho bJ hb:=by
  rcases hK u r p _ hr ho with⟨h1,h2⟩|⟨_,h3,_⟩
  ·rcases hK u' r' p' _ cp bJ with⟨dS,eo⟩|⟨_,h3,_⟩
   ·exact h.ends u u' r r' p p' c c' g z z' t h1 dS h2 eo hb
   ·exact absurd rfl (h3 _ _ _)
  ·exact absurd rfl (h3 _ _ _)
 bK u r p c g z t hr ho:=by
  rcases hK u r p _ hr ho with⟨h1,h2⟩|⟨_,h3,_⟩
  ·exact h.bK u r p c g z t h1 h2
  ·exact absurd rfl (h3 _ _ _)
structure uV(m:Match)(H:Heap)(w₀:World)(n:Nat→Nat)(S:Nat→Prop)(M:Match)(w:World):Prop where
 le:m.le M
 dom:∀ r p,M r=some p→(m r=some p∧r<n 0)∨(m r=none∧∃ j,S j∧n j≤r∧r<n (j+1))
 ax:∀ r p,M r=some p→m r=none→w₀.heap.size≤p.ax∨∃ r₀ p₀,m r₀=some p₀∧H.lo≤r₀∧p₀.ax=p.ax
 frame:∀ b,b<w₀.heap.size→(∀r p,m r=some p→H.lo≤r→p.ax≠b)→w.heap[b]? =w₀.heap[b]?
 size:w₀.heap.size≤w.heap.size
 os:w.os=w₀.os∧w.output=w₀.output
def join(M m':Match)(a b:Nat):Match:=fun r=>if a≤r∧r<b then m' r else M r
theorem uV.step{m:Match}{H:Heap}{w₀:World}{n:Nat→Nat}{S:Nat→Prop}{M:Match}{w:World}(hO:uV m H w₀ n S M w){i:Nat}(Mf:∀ r p,m r=some p→r<n i){Hx oG:Heap}{m':Match}{w':World}
  (hg:Good B lo0 (below M (n i)) Hx w m' oG w') (an:H.lo≤Hx.lo):uV m H w₀ n (fun j=>S j∨j=i) (join M m' (n i) (n (i+1))) w' where
 le r p hr:=by
  have:=Mf r p hr
  unfold join
  rw[wI (by omega)]
  exact hO.le r p hr
 dom r p hr:=by
  unfold join at hr
  split at hr
  ·rename_i cf
   refine .inr ⟨?_,i,.inr rfl,cf⟩
   cases hm:m r with
   |none=>rfl
   |some q=>have:=Mf r q hm;omega
  ·rcases hO.dom r p hr with h|⟨h0,j,h1,h2⟩
   ·exact .inl h
   ·exact .inr ⟨h0,j,.inl h1,h2⟩
 ax r p hr hm:=by
  unfold join at hr
  split at hr
  ·rename_i cf
   have oI:below M (n i) r=none:=by
    unfold below;rw[wI (by omega)]
   rcases hg.ax r p hr oI with h|⟨r₀,p₀,h1,h2,h3⟩
   ·exact .inl (wK hO.size h)
   ·have h1:=(dn.1 h1).2
    cases GM:m r₀ with
    |none=>
     rcases hO.ax r₀ p₀ h1 GM with h|⟨r₁,p₁,h4,h5,h6⟩
     ·exact .inl (by rw[←h3];exact h)
     ·exact .inr ⟨r₁,p₁,h4,h5,h6.trans h3⟩
    |some q=>
     have:=hO.le r₀ q GM
     rw[h1]at this;cases this
     exact .inr ⟨r₀,p₀,GM,wK an h2,h3⟩
  ·exact hO.ax r p hr hm
 frame b hb hf:=by
  refine(hg.frame b (wq hb hO.size) fun r p hr hl kh=>?_).trans (hO.frame b hb hf)
  have hr:=(dn.1 hr).2
  cases hm:m r with
  |none=>
   rcases hO.ax r p hr hm with h|⟨r₀,p₀,h1,h2,h3⟩
   ·omega
   ·exact hf r₀ p₀ h1 h2 (h3.trans kh)
  |some q=>
   have:=hO.le r q hm
   rw[hr]at this;cases this
   exact hf r p hm (wK an hl) kh
 size:=wK hO.size hg.size
 os:=⟨hg.os.1.trans hO.os.1,hg.os.2.trans hO.os.2⟩
theorem uV.skip{m:Match}{H:Heap}{w₀:World}{n:Nat→Nat}{S:Nat→Prop}{M:Match}{w:World}(hO:uV m H w₀ n S M w)(i:Nat):uV m H w₀ n (fun j=>S j∨j=i) M w:=
 ⟨hO.le,fun r p hr=>by
  rcases hO.dom r p hr with h|⟨h0,j,h1,h2⟩
  ·exact .inl h
  ·exact .inr ⟨h0,j,.inl h1,h2⟩,hO.ax,hO.frame,hO.size,hO.os⟩
end
section
variable[Maps]{E:Env}
theorem Mp{H H':Heap}{e:TypeId}{s v:Value}{k:Nat}{new:List Value}(h:appendV E H e s k new=some (v,H'))
  (hb:(∃l c,s= .slice none l c)∨∃ r o l c cells g t,s= .slice (some ⟨r,o,none⟩) l c∧H.objs.get r=some (.row cells (some g) t)) {x:Nat} {cs:List Value} {tp:Bool} (hx:x<H.next) (hr:H'.objs.get x=some (.row cs none tp)):H.objs.get x=some (.row cs none tp):=by
 have U5:∀ z c,(H.dd z c).objs.get x=some (.row cs none tp)→H.objs.get x=some (.row cs none tp):=fun z c hh=>by
  simp only[Heap.dd,eU,Tr.force_eq]at hh
  rcases Tr.dm hh with⟨h1,_⟩|⟨_,h1⟩
  ·omega
  ·exact h1
 unfold appendV at h
 simp only[we]at h
 obtain⟨i,_,h⟩:=h
 rcases hb with⟨l,c,rfl⟩|⟨r,o,l,c,cells,g,t,rfl,aC⟩
 ·simp only at h
  cases h1:Nat.ble (l+k) c with
  |true=>rw[h1]at h;simp only[wai,wi,wk]at h;rw[←h.2]at hr;exact hr
  |false=>
   rw[h1]at h
   simp only[wS]at h
   cases h2:(!tn i (l+k)|| !Nat.beq l 0)with
   |true=>rw[h2]at h;simp at h
   |false=>
    rw[h2]at h
    simp only[wS,wi,wk]at h
    rw[←h.2]at hr
    exact U5 _ _ hr
 ·simp only[aC]at h
  cases h1:Nat.ble (l+k) c with
  |true=>
   rw[h1]at h
   simp only[wai]at h
   cases h2:Nat.beq k 0 with
   |true=>rw[h2]at h;simp only[wai,wi,wk]at h;rw[←h.2]at hr;exact hr
   |false=>
    rw[h2]at h
    simp only[wS,we,wi,wk]at h
    obtain⟨H1,hw,_,rfl⟩:=h
    unfold Heap.write at hw
    cases h3:(!Nat.ble H.lo r|| !new.all isCell)with
    |true=>rw[h3]at hw;simp at hw
    |false=>
     rw[h3]at hw
     simp only[wS,aC]at hw
     cases t with
     |false=>simp at hw
     |true=>
      simp only at hw
      cases h4:(!Nat.ble (o+l*i.size+new.length) cells.length)with
      |true=>rw[h4]at hw;simp at hw
      |false=>
       rw[h4]at hw
       simp only[wS]at hw
       split at hw
       ·simp only[we,Tr.force_eq,wi]at hw
        obtain⟨t1,h5,rfl⟩:=hw
        rcases Tr.dm hr with⟨_,h6⟩|⟨_,h6⟩
        ·simp at h6
        ·exact(GW h5 _ _ h6).2
       ·simp at hw
  |false=>
   rw[h1]at h
   simp only[wS]at h
   cases h2:(!tn i (l+k))with
   |true=>rw[h2]at h;simp at h
   |false=>
    rw[h2]at h
    simp only[wS]at h
    cases t with
    |false=>simp at h
    |true=>
     simp only at h
     cases h3:(Nat.beq (o+l*i.size) cells.length&&Nat.ble H.lo r&&Nat.beq g.2 i.size&&new.all isCell)with
     |false=>rw[h3]at h;simp at h
     |true=>
      rw[h3]at h
      simp only[wai,we,wi,wk]at h
      obtain⟨l1,_,H1,hg,_,rfl⟩:=h
      unfold Heap.grow at hg
      split at hg
      ·simp at hg
      ·simp only[eU,Tr.force_eq,wi]at hg
       rw[←hg]at hr
       rcases Tr.dm hr with⟨h6,_⟩|⟨_,h6⟩
       ·omega
       ·rcases Tr.dm h6 with⟨_,h7⟩|⟨_,h7⟩
        ·simp at h7
        ·exact h7
theorem U6{T:Tr Value}{a:Operand}{l:List Operand}{vs:List Value}(h:evs T (a::l)=some vs):∃ v fe,ev T a=some v∧vs=v::fe:=by
 simp only[evs,we,wi]at h
 obtain⟨v,h1,fe,_,h3⟩:=h
 exact⟨v,fe,h1,h3.symm⟩
theorem TC{call:cT}{T:Tr Value}{o:Oper}{H H':Heap}{v:Value}{args:List Operand}(h:exOp E call T o H=some (v,H'))(ha:appOf o.op=some args)(hb:lateBase T H args=true){x:Nat}{cs:List Value}{tp:Bool}(hx:x<H.next)(hr:H'.objs.get x=some (.row cs none tp)):H.objs.get x=some (.row cs none tp):=by
 unfold appOf at ha
 split at ha
 ·rename_i c bW
  split at ha
  ·rename_i lq
   simp only[wi]at ha
   subst ha
   unfold exOp at h
   rw[bW]at h
   simp only[lq,we]at h
   obtain⟨vs,h1,h2⟩:=h
   unfold lateBase at hb
   split at hb
   ·rename_i a l hl
    rw[hl]at h1
    obtain⟨u,fe,h3,rfl⟩:=U6 h1
    have gG:(∃l c,u= .slice none l c)∨∃ r o l c cells g t,u= .slice (some ⟨r,o,none⟩) l c∧H.objs.get r=some (.row cells (some g) t):=by
     rw[h3]at hb
     split at hb
     ·rename_i n c hq;cases hq;exact .inl ⟨n,c,rfl⟩
     ·rename_i r o n c hq
      cases hq
      split at hb
      ·rename_i cells g t hq;exact .inr ⟨r,o,n,c,cells,g,t,rfl,hq⟩
      ·cases hb
     ·cases hb
    generalize c.argTypes.toList=ts at h2
    match ts,fe,h2 with
    |[],_,h2=>simp[builtinV]at h2
    |[_],_,h2=>simp[builtinV]at h2
    |_::_::_,[],h2=>simp[builtinV]at h2
    |t1::t2::_,y::_,h2=>
     simp only[builtinV,we]at h2
     obtain⟨i,_,i',_,h2⟩:=h2
     split at h2
     ·split at h2
      ·simp only[we]at h2
       obtain⟨_,_,_,_,_,_,h2⟩:=h2
       exact Mp (cn h2).2 gG hx hr
      ·simp only[we]at h2
       obtain⟨_,_,_,_,h2⟩:=h2
       exact Mp h2 gG hx hr
      ·simp at h2
     ·simp at h2
   ·cases hb
  ·cases ha
 ·cases ha
end
section
variable[Maps]{B lo0:Nat}{E:Env}
theorem Dk{M:Match}{K:Nat→Nat→AObj→Prop}{G:Nat→List Nat→Prop}{w:World}(h:jD B lo0 M K G w){n nx:Nat}(hn:n≤nx)(an:lo0≤nx):Rel B lo0 (below M n) {objs:=Tr.nil,grps:=Tr.nil,next:=nx,lo:=nx} w:=
 h.rel an (wy _) hn (fun r p o _ _ ho=>by simp[Tr.get_nil]at ho) (fun g l hl=>by simp[Tr.get_nil]at hl)
theorem tL{α:Type}{r j:Nat}{a x:α}(h:((Tr.nil:Tr α).set r a).get j=some x):j=r∧x=a:=by
 rcases Tr.dm h with h|⟨_,h⟩
 ·exact h
 ·simp[Tr.get_nil]at h
theorem Tv{M:Match}{K:Nat→Nat→AObj→Prop}{G:Nat→List Nat→Prop}{w:World}(h:jD B lo0 M K G w){n nx r:Nat}{p:dO}{ob:AObj}(hn:n≤nx)(an:lo0≤nx)(hm:M r=some p)
  (tM:iP (decide (lo0≤r)) (below M n) p w ob) (hg:∀ c g z t,ob= .row c (some (g,z)) t→g<n):Rel B lo0 (below M n) {objs:=Tr.nil.set r ob,grps:=Tr.nil,next:=nx,lo:=nx} w where
 base:=h.base
 fJ:=h.fJ
 lo:=an
 ag:=wy _
 dom r p hr:=by
  obtain⟨h1,h2⟩:=dn.1 hr
  obtain⟨a,b,c⟩:=h.dom r p h2
  exact⟨wq h1 hn,a,b,c⟩
 obj r' p' o hr ho:=by
  obtain⟨rfl,rfl⟩:=tL ho
  have:=(dn.1 hr).2
  rw[hm]at this;cases this
  exact tM
 sep r1 r2 p1 p2 o1 o2 aX hl gS cq tN qv hb:=by
  obtain⟨rfl,_⟩:=tL tN
  obtain⟨rfl,_⟩:=tL qv
  exact absurd rfl aX
 dw r1 r2 p1 p2 c c' g z z' gS cq tN qv:=by
  obtain⟨rfl,_⟩:=tL tN
  obtain⟨rfl,_⟩:=tL qv
  rfl
 aT r1 p1 c g z gS tN l hl:=by simp[Tr.get_nil]at hl
 ends r1 r2 p1 p2 c c' g z z' t gS cq tN qv hb:=by
  obtain⟨rfl,h1⟩:=tL tN
  obtain⟨rfl,h2⟩:=tL qv
  rw[gS]at cq;cases cq
  rw[←h1]at h2;cases h2
  exact wy _
 bK r1 p1 c g z t gS tN:=by
  obtain⟨rfl,h1⟩:=tL tN
  exact wq (hg c g z t h1.symm) hn
end
section
variable{B lo0:Nat}{m:Match}{w:World}{P:Program}{ops:Array Oper}{size:Nat}
theorem Lm{m:Match}{u u':Value}{r:Nat}(hu:VRel m u u')(hr:rowOfV u=some r):∃ p,m r=some p:=by
 cases hu<;>simp only[rowOfV,reduceCtorEq,wi]at hr
 ·rename_i h;subst hr;exact⟨_,h⟩
 ·rename_i h _ _ _;subst hr;exact⟨_,h⟩
 ·rename_i h _;subst hr;exact⟨_,h⟩
 ·rename_i h;subst hr;exact⟨_,h⟩
end
section
variable[Maps]{B lo0:Nat}{E:Env}
structure Setup(E:Env)(call:cT)(ops:Array Oper)(a9:List Info)(size:Nat)(T:Nat→Tr Value)(H:Nat→Heap)(v:Nat→Value)(wt:Nat→Bool):Prop where
 env:EnvOk E
 low:nK call
 stat:Stat ops a9
 text:Text E call ops.toList size ops.toList a9 T H v wt
 lo:(H 0).lo≤(H 0).next
 tm:∀ t u,(T 0).get t=some u→t<size
 size:Maps.nM size=true
 next:Maps.nM (H ops.size).next=true
variable{call:cT}{ops:Array Oper}{a9:List Info}{size:Nat}{T:Nat→Tr Value}{H:Nat→Heap}{v:Nat→Value}{wt:Nat→Bool}
end
section
variable{B lo0:Nat}{m:Match}{w:World}{P:Program}{ops:Array Oper}{size:Nat}
theorem jE{i:Nat}{o:Oper}(h:ops[i]? =some o):ops.toList[i]? =some o:=by rw[wao];exact h
theorem jF{i:Nat}{o:Oper}(h:ops[i]? =some o):i<ops.size:=(w0.1 h).1
theorem tO{i:Nat}(h:i<ops.size):∃ o,ops[i]? =some o:=⟨ops[i],wa0 h⟩
end
section
variable[Maps]{B lo0:Nat}{E:Env}
variable{call:cT}{ops:Array Oper}{a9:List Info}{size:Nat}{T:Nat→Tr Value}{H:Nat→Heap}{v:Nat→Value}{wt:Nat→Bool}
theorem Setup.Ln(hS:Setup E call ops a9 size T H v wt){i:Nat}{o:Oper}(ho:ops[i]? =some o)(hl:(H i).lo≤(H i).next):dv (H i) (H (i+1)):=by
 cases hw:wt i with
 |false=>rw[(hS.text.skip i o (jE ho) hw).2];exact .refl _
 |true=>
  obtain⟨bm,hi⟩:=hS.stat.info i o ho
  obtain⟨_,H',h1,h2⟩:=hS.text.done i o bm (jE ho) hi hw
  rw[h2]
  exact Lp hl bm.grow (As hS.low (by cases bm.grow<;>simp<;>omega) h1)
theorem Setup.Au(hS:Setup E call ops a9 size T H v wt):∀ i,i≤ops.size→(H i).lo=(H 0).lo∧(H i).lo≤(H i).next∧(H 0).next≤(H i).next
 |0,_=>⟨rfl,hS.lo,wy _⟩
 |i+1,h=>by
  obtain⟨h1,h2,h3⟩:=hS.Au i (by omega)
  obtain⟨o,ho⟩:=tO (ops:=ops) (i:=i) (by omega)
  have:=hS.Ln ho h2
  exact⟨this.lo.trans h1,this.ok h2,wK h3 this.ag⟩
theorem Setup.x9(hS:Setup E call ops a9 size T H v wt){i:Nat}{o:Oper}(ho:ops[i]? =some o):dv (H i) (H (i+1)):=hS.Ln ho (hS.Au i (waz (jF ho))).2.1
theorem Setup.mono(hS:Setup E call ops a9 size T H v wt){i j:Nat}(h:i≤j)(hj:j≤ops.size):(H i).next≤(H j).next:=by
 induction j with
 |zero=>have:i=0:=by omega
        rw[this];exact wy _
 |succ j ih=>
  by_cases kb:i=j+1
  ·rw[kb];exact wy _
  ·obtain⟨o,ho⟩:=tO (ops:=ops) (i:=j) (by omega)
   exact wK (ih (by omega) (by omega)) (hS.x9 ho).ag
theorem Setup.tP(hS:Setup E call ops a9 size T H v wt):∀ i,i≤ops.size→∀ t u,(T i).get t=some u→t<size
 |0,_,t,u,h=>hS.tm t u h
 |i+1,hi,t,u,h=>by
  obtain⟨o,ho⟩:=tO (ops:=ops) (i:=i) (by omega)
  have hp:=hS.text.put i o (jE ho)
  cases hd:o.dst with
  |none=>rw[hd]at hp;simp only[gQ,wi]at hp;rw[←hp]at h;exact hS.tP i (by omega) t u h
  |some d=>
   rw[hd]at hp
   simp only[gQ]at hp
   obtain⟨h1,h2⟩:=cn hp
   simp only[Tr.force_eq,wi]at h2
   rw[←h2]at h
   rcases Tr.dm h with⟨rfl,_⟩|⟨_,h3⟩
   ·exact wan h1
   ·exact hS.tP i (by omega) t u h3
theorem Setup.Tw(hS:Setup E call ops a9 size T H v wt){i:Nat}{o:Oper}(ho:ops[i]? =some o){t:Tmp}(hd:o.dst≠some t)(ht:t<size):(T (i+1)).get t=(T i).get t:=by
 have hp:=hS.text.put i o (jE ho)
 cases iZ:o.dst with
 |none=>rw[iZ]at hp;simp only[gQ,wi]at hp;rw[hp]
 |some d=>
  rw[iZ]at hp
  simp only[gQ]at hp
  obtain⟨h1,h2⟩:=cn hp
  simp only[Tr.force_eq,wi]at h2
  rw[←h2]
  exact Tr.uT (fun h=>hd (by rw[iZ,h])) (Maps.rR hS.size (waz ht))
theorem Setup.Lq(hS:Setup E call ops a9 size T H v wt){i:Nat}{o:Oper}(ho:ops[i]? =some o){t:Tmp}(hd:o.dst=some t){u:Value}(h:(T (i+1)).get t=some u):u=v i:=by
 have hp:=hS.text.put i o (jE ho)
 rw[hd]at hp
 simp only[gQ]at hp
 obtain⟨h1,h2⟩:=cn hp
 simp only[Tr.force_eq,wi]at h2
 rw[←h2]at h
 rcases Tr.dm h with⟨_,h⟩|⟨h,_⟩
 ·exact h
 ·exact absurd rfl h
theorem Setup.same(hS:Setup E call ops a9 size T H v wt){t:Tmp}(ht:t<size){a b:Nat}(rS:a≤b)(hb:b≤ops.size)(h:∀ j o,a≤j→j<b→ops[j]? =some o→o.dst≠some t):(T b).get t=(T a).get t:=by
 induction b with
 |zero=>have:a=0:=by omega
        rw[this]
 |succ b ih=>
  by_cases Tz:a=b+1
  ·rw[Tz]
  ·obtain⟨o,ho⟩:=tO (ops:=ops) (i:=b) (by omega)
   rw[hS.Tw ho (h b o (by omega) (by omega) ho) ht]
   exact ih (by omega) (by omega) fun j o h1 h2=>h j o h1 (by omega)
theorem Setup.still(hS:Setup E call ops a9 size T H v wt){i:Nat}{o:Oper}(ho:ops[i]? =some o)(h:wt i=false∨kindOf o.op= .pure∨kindOf o.op= .load):H (i+1)=H i:=by
 cases hw:wt i with
 |false=>exact(hS.text.skip i o (jE ho) hw).2
 |true=>
  rw[hw]at h
  obtain⟨bm,hi⟩:=hS.stat.info i o ho
  obtain⟨_,H',h1,h2⟩:=hS.text.done i o bm (jE ho) hi hw
  rw[h2]
  rcases h with h|h|h
  ·cases h
  ·rw[(Lr h h1).1]
  ·rw[(Ge h h1).1]
theorem Setup.alloc(hS:Setup E call ops a9 size T H v wt){i:Nat}{o:Oper}(ho:ops[i]? =some o)(hk:kindOf o.op= .alloc)(hw:wt i=true):
  ∃ob,uU ob∧(H (i+1)).next=(H i).next+1∧(H (i+1)).grps=(H i).grps∧(∀r x,(H (i+1)).objs.get r=some x→(r=(H i).next∧x=ob)∨(r≠(H i).next∧(H i).objs.get r=some x))∧
   ∀Hx:Heap,Hx.next=(H i).next→exOp E call (T i) o Hx=some (v i,Hx.add ob):=by
 obtain⟨bm,hi⟩:=hS.stat.info i o ho
 obtain⟨_,H',h1,h2⟩:=hS.text.done i o bm (jE ho) hi hw
 obtain⟨ob,h3,h4,h5⟩:=TA hk h1
 refine⟨ob,h3,?_,?_,fun r x hx=>?_,fun Hx hx=>h5 Hx hx⟩
 ·rw[h2,h4];simp[iR]
 ·rw[h2,h4];simp[Av]
 ·rw[h2,h4]at hx
  exact Gf (H:={objs:=(H i).objs,grps:=(H i).grps,next:=(H i).next,lo:=bif bm.grow then(H i).next else(H i).lo}) hx
def Gg(ops:Array Oper)(j:Nat):Prop:=∃ o,ops[j]? =some o∧kindOf o.op= .alloc
def rT(ops:Array Oper)(H:Nat→Heap)(S:Nat→Prop)(c:Nat)(u r:Nat)(o:AObj):Prop:=
 (u=(H c).next∧r<(H c).next∧(H c).objs.get r=some o)∨
 ∃j,c≤j∧j<ops.size∧S j∧Gg ops j∧(H j).next≤r∧r<(H (j+1)).next∧u=(H (j+1)).next∧(H (j+1)).objs.get r=some o∧uU o
def qx(E:Env)(ty:TypeId)(v:Value)(m:Match)(p:dO)(q:Nat)(w:World):Prop:=
 ∃(i:TI) (cs iD:List Value) (C:Array Value) (e:TypeId) (fr:Nat×Nat),E.ty.get ty=some i∧w.heap[p.ax]? =some (.cells C e fr)∧cs.length=(bif i.agg then i.size else 1)∧LRel m cs iD∧(∀j,j<cs.length→C[p.base+q+j]? =iD[j]?)∧
  (i.agg=true→v= .agg cs.toArray)∧(i.agg=false→cs[0]? =some v)
def lM(E:Env)(call:cT)(lo0:Nat)(T:Tr Value)(n:Nat)(v:Value)(o:Oper)(M:Match)(w:World):Prop:=
 (∀Hx,exOp E call T o Hx=some (v,Hx))∨(∃x u r,loadsFrom o.op=some x∧ev T x=some u∧rowOfV u=some r∧(r<n→∀ p,M r=some p→
  ∃ob,iP (decide (lo0≤r)) (below M n) p w ob∧(∀c g z t,ob= .row c (some (g,z)) t→g<n)∧∀ Hx:Heap,Hx.objs.get r=some ob→exOp E call T o Hx=some (v,Hx)))∨
 ∃ty x r q,o.op= .load ty x∧ev T x=some (ptr r q)∧(r<n→∀ p,M r=some p→qx E ty v (below M n) p q w)
structure Inv(E:Env)(call:cT)(ops:Array Oper)(a9:List Info)(size:Nat)(T:Nat→Tr Value)(H:Nat→Heap)(v:Nat→Value)(wt:Nat→Bool)(B lo0:Nat)(m:Match)(w₀:World)(a₀:Act)
  (S:Nat→Prop) (c:Nat) (M:Match) (a:Act) (w:World):Prop where
 lt:∀ j,S j→j<ops.size
 closed:∀ i j,S i→dy ops i j→S j
 cN:c≤ops.size
 fR:∀ (e:Nat) (o:Oper),ops[e]? =some o→dP o→(S e↔e<c)
 Dl:∀ (j:Nat) (o:Oper),ops[j]? =some o→kindOf o.op= .alloc→j<c→S j
 out:uV m (H 0) w₀ (fun i=>(H i).next) S M w
 rk:jD B lo0 M (rT ops H S c) (fun g l=>(H c).grps.get g=some l) w
 Aw:∀ j r p,c≤j→S j→Gg ops j→(H j).next≤r→r<(H (j+1)).next→M r=some p→∀ r' p',r'≠r→M r'=some p'→p'.ax≠p.ax
 Ls:∀ (l:Nat) (o:Oper),ops[l]? =some o→kindOf o.op= .load→l<c→¬ S l→wt l=true→lM E call lo0 (T l) (H l).next (v l) o M w
 Ax:a.tmps.size=size
 tmps:∀ (t k:Nat),k≤ops.size→(∀(j:Nat) (o:Oper),ops[j]? =some o→o.dst=some t→(S j↔j<k))→∀ u,(T k).get t=some u→∃ u',a.tmps[t]? =some u'∧VRel (below M (H k).next) u u'
 cJ:∀ t,(∀(j:Nat) (o:Oper),ops[j]? =some o→o.dst≠some t)→a.tmps[t]? =a₀.tmps[t]?
 defers:a.defers=a₀.defers
variable{m:Match}{w₀:World}{a₀:Act}{S:Nat→Prop}{c:Nat}{M:Match}{a:Act}{w:World}
theorem Inv.uW(hS:Setup E call ops a9 size T H v wt)(I:Inv E call ops a9 size T H v wt B lo0 m w₀ a₀ S c M a w){i:Nat}(hi:¬ S i)(hlt:i<ops.size){r:Nat}{p:dO}(hr:M r=some p):¬ ((H i).next≤r∧r<(H (i+1)).next):=by
 rintro⟨h1,h2⟩
 rcases I.out.dom r p hr with⟨_,h⟩|⟨_,j,h3,h4,h5⟩
 ·have:=hS.mono (wJ i) (waz hlt)
  omega
 ·have hj:=I.lt j h3
  by_cases jG:j=i
  ·subst jG;exact hi h3
  ·by_cases lN:j<i
   ·have:=hS.mono (i:=j+1) (j:=i) lN (waz hlt);omega
   ·have:=hS.mono (i:=i+1) (j:=j) (by omega) (waz hj);omega
theorem Inv.trace(hS:Setup E call ops a9 size T H v wt)(I:Inv E call ops a9 size T H v wt B lo0 m w₀ a₀ S c M a w)(d:Nat):c+d≤ops.size→
  (∀(e:Nat) (o:Oper),c≤e→e<c+d→ops[e]? =some o→dP o→wt e=true→∃ bm,a9[e]? =some bm∧bm.grow=true)→
  ∀r p o,M r=some p→r<(H (c+d)).next→(H (c+d)).objs.get r=some o→∃ u,u≤(H (c+d)).next∧rT ops H S c u r o:=by
 induction d with
 |zero=>intro _ _ r p o _ hr ho;exact⟨_,wy _,.inl ⟨rfl,hr,ho⟩⟩
 |succ d ih=>
  intro hN he r p o hm hr ho
  have ih:=ih (by omega) (fun e o h1 h2=>he e o h1 (by omega))
  obtain⟨op,bW⟩:=tO (ops:=ops) (i:=c+d) (by omega)
  rw[show c+(d+1)=c+d+1 by omega]at hr ho⊢
  have yb:(H (c+d)).next≤(H (c+d+1)).next:=(hS.x9 bW).ag
  have uX:H (c+d+1)=H (c+d)→∃ u,u≤(H (c+d+1)).next∧rT ops H S c u r o:=fun h=>by
   rw[h]at hr ho⊢
   exact ih r p o hm hr ho
  cases hw:wt (c+d)with
  |false=>exact uX (hS.still bW (.inl hw))
  |true=>
   cases hk:kindOf op.op with
   |pure=>exact uX (hS.still bW (.inr (.inl hk)))
   |load=>exact uX (hS.still bW (.inr (.inr hk)))
   |alloc=>
    obtain⟨ob,h1,h2,_,h4,_⟩:=hS.alloc bW hk hw
    rcases h4 r o ho with⟨h5,h6⟩|⟨h5,h6⟩
    ·have Gh:S (c+d):=by
      apply wbK
      intro hn
      exact I.uW hS hn (jF bW) hm ⟨by omega,by omega⟩
     exact⟨_,wy _,.inr ⟨c+d,by omega,jF bW,Gh,⟨op,bW,hk⟩,by omega,hr,rfl,ho,by rw[h6];exact h1⟩⟩
    ·obtain⟨u,h7,h8⟩:=ih r p o hm (by omega) h6
     exact⟨u,by omega,h8⟩
   |_=>
    have Ay:dP op:=by
     first
     |exact .inl hk
     |exact .inr hk
    obtain⟨bm,h1,h2⟩:=he (c+d) op (by omega) (by omega) bW Ay hw
    have hn:¬ S (c+d):=fun h=>by have:=(I.fR _ _ bW Ay).1 h;omega
    have hlt:r<(H (c+d)).next:=by
     have:=I.uW hS hn (jF bW) hm
     omega
    obtain⟨_,H',h3,h4⟩:=hS.text.done (c+d) op bm (jE bW) h1 hw
    have hl:=As hS.low (by rw[h2];simp) h3
    have:=hl.low r o (by rw[h2];exact hlt) (by rw[h4]at ho;exact ho)
    obtain⟨u,h7,h8⟩:=ih r p o hm hlt this
    exact⟨u,by omega,h8⟩
theorem Inv.TB(hS:Setup E call ops a9 size T H v wt)(I:Inv E call ops a9 size T H v wt B lo0 m w₀ a₀ S c M a w)(d:Nat):c+d≤ops.size→
  (∀(e:Nat) (o:Oper),c≤e→e<c+d→ops[e]? =some o→dP o→wt e=true→∃ bm,a9[e]? =some bm∧(bm.grow=true∨(appOf o.op).isSome=true∧bm.apart≠[]))→
  ∀r p cs tp,M r=some p→r<(H (c+d)).next→(H (c+d)).objs.get r=some (.row cs none tp)→∃ u,u≤(H (c+d)).next∧rT ops H S c u r (.row cs none tp):=by
 induction d with
 |zero=>intro _ _ r p cs tp _ hr ho;exact⟨_,wy _,.inl ⟨rfl,hr,ho⟩⟩
 |succ d ih=>
  intro hN he r p cs tp hm hr ho
  have ih:=ih (by omega) (fun e o h1 h2=>he e o h1 (by omega))
  obtain⟨op,bW⟩:=tO (ops:=ops) (i:=c+d) (by omega)
  rw[show c+(d+1)=c+d+1 by omega]at hr ho⊢
  have yb:(H (c+d)).next≤(H (c+d+1)).next:=(hS.x9 bW).ag
  have uX:H (c+d+1)=H (c+d)→∃ u,u≤(H (c+d+1)).next∧rT ops H S c u r (.row cs none tp):=fun h=>by
   rw[h]at hr ho⊢
   exact ih r p cs tp hm hr ho
  cases hw:wt (c+d)with
  |false=>exact uX (hS.still bW (.inl hw))
  |true=>
   cases hk:kindOf op.op with
   |pure=>exact uX (hS.still bW (.inr (.inl hk)))
   |load=>exact uX (hS.still bW (.inr (.inr hk)))
   |alloc=>
    obtain⟨ob,h1,h2,_,h4,_⟩:=hS.alloc bW hk hw
    rcases h4 r _ ho with⟨h5,h6⟩|⟨h5,h6⟩
    ·have Gh:S (c+d):=by
      apply wbK
      intro hn
      exact I.uW hS hn (jF bW) hm ⟨by omega,by omega⟩
     exact⟨_,wy _,.inr ⟨c+d,by omega,jF bW,Gh,⟨op,bW,hk⟩,by omega,hr,rfl,ho,by rw[h6];exact h1⟩⟩
    ·obtain⟨u,h7,h8⟩:=ih r p cs tp hm (by omega) h6
     exact⟨u,by omega,h8⟩
   |_=>
    have Ay:dP op:=by
     first
     |exact .inl hk
     |exact .inr hk
    obtain⟨bm,h1,h2⟩:=he (c+d) op (by omega) (by omega) bW Ay hw
    have hn:¬ S (c+d):=fun h=>by have:=(I.fR _ _ bW Ay).1 h;omega
    have hlt:r<(H (c+d)).next:=by
     have:=I.uW hS hn (jF bW) hm
     omega
    obtain⟨cK,H',h3,h4⟩:=hS.text.done (c+d) op bm (jE bW) h1 hw
    have this:(H (c+d)).objs.get r=some (.row cs none tp):=by
     rw[h4]at ho
     rcases h2 with h2|⟨h2,h5⟩
     ·have hl:=As hS.low (by rw[h2];simp) h3
      exact hl.low r _ (by rw[h2];exact hlt) ho
     ·obtain⟨args,ha⟩:=wci.1 h2
      have F6:lateBase (T (c+d)) (H (c+d)) args=true:=by
       revert cK h5
       cases bm.apart with
       |nil=>exact fun _ h=>absurd rfl h
       |cons q l=>intro cK _;simpa only[storeApart,ha]using cK
      exact TC h3 ha F6 hlt ho
    obtain⟨u,h7,h8⟩:=ih r p cs tp hm hlt this
    exact⟨u,by omega,h8⟩
theorem Inv.grps(hS:Setup E call ops a9 size T H v wt)(_I:Inv E call ops a9 size T H v wt B lo0 m w₀ a₀ S c M a w)(d:Nat):c+d≤ops.size→
  (∀(e:Nat) (o:Oper),c≤e→e<c+d→ops[e]? =some o→dP o→wt e=false)→(H (c+d)).grps=(H c).grps:=by
 induction d with
 |zero=>intro _ _;rfl
 |succ d ih=>
  intro hN he
  have ih:=ih (by omega) (fun e o h1 h2=>he e o h1 (by omega))
  obtain⟨op,bW⟩:=tO (ops:=ops) (i:=c+d) (by omega)
  rw[show c+(d+1)=c+d+1 by omega,←ih]
  cases hw:wt (c+d)with
  |false=>rw[hS.still bW (.inl hw)]
  |true=>
   cases hk:kindOf op.op with
   |pure=>rw[hS.still bW (.inr (.inl hk))]
   |load=>rw[hS.still bW (.inr (.inr hk))]
   |alloc=>obtain⟨_,_,_,h3,_⟩:=hS.alloc bW hk hw;exact h3
   |store=>have:=he (c+d) op (by omega) (by omega) bW (.inl hk);rw[hw]at this;cases this
   |call=>have:=he (c+d) op (by omega) (by omega) bW (.inr hk);rw[hw]at this;cases this
theorem Inv.looks(hS:Setup E call ops a9 size T H v wt)(I:Inv E call ops a9 size T H v wt B lo0 m w₀ a₀ S c M a w){i:Nat}{o:Oper}(ho:ops[i]? =some o)(hi:¬ S i)(hd:∀ j,dy ops i j→S j):
  ∃T2,fk (below M (H i).next) T2 a.tmps∧(∀x∈o.op.operands.toList,ev T2 x=ev (T i) x)∧wantedA T2 ops.toList o=wantedA (T i) ops.toList o:=by
 have hlt:=jF ho
 have TD:∀ t,(t∈looksOf ops.toList o∨∀ (j:Nat) (p:Oper),ops[j]? =some p→p.dst≠some t)→∀ u,(T i).get t=some u→∃ u',a.tmps[t]? =some u'∧VRel (below M (H i).next) u u':=fun t ht u hu=>by
  refine I.tmps t i (waz hlt) (fun j p hp qy=>?_) u hu
  rcases ht with ht|ht
  ·rcases hS.stat.tmps i o j p t ho hp qy (.inr ht)with rfl|h|h
   ·exact⟨fun h=>absurd h hi,fun h=>by omega⟩
   ·exact⟨fun _=>h.lt hS.stat.rU,fun _=>hd j h⟩
   ·have:=h.lt hS.stat.rU
    exact⟨fun h'=>absurd (I.closed j i h' h) hi,fun h=>by omega⟩
  ·exact absurd qy (ht j p hp)
 let D:=(ops.toList.filterMap (·.dst)).filter fun t=> !(looksOf ops.toList o).contains t
 have Lt:∀ t u,(dropAll D (T i)).get t=some u→(T i).get t=some u∧(t∈looksOf ops.toList o∨∀ (j:Nat) (p:Oper),ops[j]? =some p→p.dst≠some t):=fun t u h=>by
  obtain⟨h1,h2⟩:=Lu h
  refine⟨h2,?_⟩
  by_cases hl:t∈looksOf ops.toList o
  ·exact .inl hl
  ·refine .inr fun j p hp qy=>h1 ?_
   simp only[D,List.mem_filter,wcz,wbt,List.contains_eq_mem,wal]
   exact⟨⟨p,wag (jE hp),qy⟩,hl⟩
 have Az:∀ t,t∈looksOf ops.toList o→(dropAll D (T i)).get t=(T i).get t:=fun t ht=>by
  cases hg:(T i).get t with
  |none=>
   cases AA:(dropAll D (T i)).get t with
   |none=>rfl
   |some u=>rw[(Lt t u AA).1]at hg;cases hg
  |some u=>
   have:=hS.tP i (waz hlt) t u hg
   rw[Lv (Maps.rR hS.size (waz this)),hg]
   intro h
   simp[D,ht]at h
 refine⟨dropAll D (T i),fun t u h=>?_,fun x hx=>?_,?_⟩
 ·obtain⟨h1,h2⟩:=Lt t u h
  exact TD t h2 u h1
 ·cases x with
  |tmp t=>
   refine Az t ?_
   have:t∈tmpsOf o.op.operands.toList:=Lw hx
   unfold looksOf
   split
   ·exact wM _ this
   ·exact this
  |_=>rfl
 ·unfold wantedA
  cases hg:o.guard with
  |none=>rfl
  |some jw=>
   obtain⟨j,b⟩:=jw
   simp only
   cases iZ:(ops.toList[j]?).bind (·.dst)with
   |none=>rfl
   |some d=>
    have:d∈looksOf ops.toList o:=by
     unfold looksOf Ll
     simp only[hg,iZ]
     exact wW ..
    simp only[Az d this]
theorem Inv.Gi(hS:Setup E call ops a9 size T H v wt)(I:Inv E call ops a9 size T H v wt B lo0 m w₀ a₀ S c M a w){i:Nat}{o:Oper}(ho:ops[i]? =some o)(hi:¬ S i)(hd:∀ j,dy ops i j→S j){M':Match}(ck:M.le M'){v':Value}
  (hv:VRel (below M' (H (i+1)).next) (v i) v') (t k:Nat) (hk:k≤ops.size) (hw:∀ (j:Nat) (p:Oper),ops[j]? =some p→p.dst=some t→((S j∨j=i)↔j<k)) (u:Value) (hu:(T k).get t=some u):
  ∃u',(a.put o.dst v').tmps[t]? =some u'∧VRel (below M' (H k).next) u u':=by
 have ht:t<size:=hS.tP k hk t u hu
 by_cases ye:o.dst=some t
 ·have Lx:i<k:=(hw i o ho ye).1 (.inr rfl)
  have eA:∀ j p,i+1≤j→j<k→ops[j]? =some p→p.dst≠some t:=fun j p h1 h2 hp qy=>by
   have hj:S j:=((hw j p hp qy).2 h2).resolve_right (by omega)
   rcases hS.stat.tmps i o j p t ho hp qy (.inl ye)with h|h|h
   ·omega
   ·have:=h.lt hS.stat.rU;omega
   ·exact hi (I.closed j i hj h)
  rw[hS.same ht (show i+1≤k by omega) hk eA]at hu
  have:=hS.Lq ho ye hu
  subst this
  refine⟨v',?_,hv.mono (AB M' (hS.mono (by omega) hk))⟩
  rw[ye,uY,wb7 (by rw[I.Ax];exact ht)]
 ·obtain⟨u',h1,h2⟩:=I.tmps t k hk (fun j p hp qy=>by
   have:=hw j p hp qy
   have jG:j≠i:=fun h=>by subst h;rw[ho]at hp;cases hp;exact ye qy
   exact⟨fun h=>this.1 (.inl h),fun h=>(this.2 h).resolve_right jG⟩) u hu
  refine⟨u',?_,h2.mono (rV ck _)⟩
  cases AD:o.dst with
  |none=>exact h1
  |some d=>rw[uY,wa8 (fun h=>ye (by rw[AD,h]))];exact h1
theorem Inv.uZ(hS:Setup E call ops a9 size T H v wt)(I:Inv E call ops a9 size T H v wt B lo0 m w₀ a₀ S c M a w){i:Nat}{o:Oper}(ho:ops[i]? =some o)(hi:¬ S i)(hd:∀ j,dy ops i j→S j)(he:dP o):
  c≤i∧(∀(e:Nat) (p:Oper),ops[e]? =some p→dP p→e<i→S e)∧(∀(e:Nat) (p:Oper),ops[e]? =some p→dP p→i<e→¬ S e)∧(∀(e:Nat) (p:Oper),c≤e→e<i→ops[e]? =some p→¬ dP p):=by
 have h1:∀ (e:Nat) (p:Oper),ops[e]? =some p→dP p→e<i→S e:=fun e p hp cU hlt=>by
  rcases hS.stat.fR i o e p ho hp he cU with h|h|h
  ·omega
  ·exact hd e h
  ·have:=h.lt hS.stat.rU;omega
 refine⟨?_,h1,fun e p hp cU hlt h=>?_,fun e p h2 h3 hp cU=>?_⟩
 ·apply wcF
  intro h
  exact hi ((I.fR i o ho he).2 h)
 ·rcases hS.stat.fR i o e p ho hp he cU with h'|h'|h'
  ·omega
  ·have:=h'.lt hS.stat.rU;omega
  ·exact hi (I.closed e i h h')
 ·have:=(I.fR e p hp cU).1 (h1 e p hp cU h3)
  omega
def upto(c i:Nat)(o:Oper):Nat:=
 match kindOf o.op with
 | .store=>i+1
 | .call=>i+1
 |_=>c
end
section
variable{B lo0:Nat}{m:Match}{w:World}{P:Program}{ops:Array Oper}{size:Nat}
theorem tQ{c i:Nat}{o:Oper}(h:dP o):upto c i o=i+1:=by rcases h with h|h<;>simp[upto,h]
theorem tR{c i:Nat}{o:Oper}(h:¬ dP o):upto c i o=c:=by
 unfold upto
 split
 ·rename_i h';exact absurd (.inl h') h
 ·rename_i h';exact absurd (.inr h') h
 ·rfl
end
section
variable[Maps]{B lo0:Nat}{E:Env}
variable{call:cT}{ops:Array Oper}{a9:List Info}{size:Nat}{T:Nat→Tr Value}{H:Nat→Heap}{v:Nat→Value}{wt:Nat→Bool}
variable{m:Match}{w₀:World}{a₀:Act}{S:Nat→Prop}{c:Nat}{M:Match}{a:Act}{w:World}
theorem Inv.plain(hS:Setup E call ops a9 size T H v wt)(I:Inv E call ops a9 size T H v wt B lo0 m w₀ a₀ S c M a w){i:Nat}{o:Oper}(ho:ops[i]? =some o)(hi:¬ S i)(hd:∀ j,dy ops i j→S j):
  (∀j,S j∨j=i→j<ops.size)∧(∀k j,S k∨k=i→dy ops k j→S j∨j=i)∧upto c i o≤ops.size∧(∀(e:Nat) (p:Oper),ops[e]? =some p→dP p→((S e∨e=i)↔e<upto c i o))∧
  (∀(j:Nat) (p:Oper),ops[j]? =some p→kindOf p.op= .alloc→j<upto c i o→S j∨j=i):=by
 have hlt:=jF ho
 refine⟨fun j h=>h.elim (I.lt j) (fun h=>h▸hlt),fun k j h vd=>h.elim (fun h=> .inl (I.closed k j h vd)) (fun h=> .inl (hd j (h▸vd))),?_,fun e p hp cU=>?_,fun j p hp hk hj=>?_⟩
 ·by_cases he:dP o
  ·rw[tQ he];omega
  ·rw[tR he];exact I.cN
 ·by_cases he:dP o
  ·rw[tQ he]
   obtain⟨_,h1,h2,_⟩:=I.uZ hS ho hi hd he
   constructor
   ·rintro(h|h)
    ·apply Nat.lt_succ_of_le
     apply wcF
     intro h'
     exact h2 e p hp cU h' h
    ·omega
   ·intro h
    by_cases Gj:e=i
    ·exact .inr Gj
    ·exact .inl (h1 e p hp cU (by omega))
  ·rw[tR he]
   have Gj:e≠i:=fun h=>by subst h;rw[ho]at hp;cases hp;exact he cU
   rw[←I.fR e p hp cU]
   exact⟨fun h=>h.resolve_right Gj,.inl⟩
 ·by_cases he:dP o
  ·rw[tQ he]at hj
   have jG:j≠i:=fun h=>by subst h;rw[ho]at hp;cases hp;rcases he with he|he<;>rw[hk]at he<;>cases he
   exact .inl (hd j (hS.stat.Dl i o j p ho hp he hk (by omega)))
  ·rw[tR he]at hj
   exact .inl (I.Dl j p hp hk hj)
theorem Inv.Gk(hS:Setup E call ops a9 size T H v wt)(I:Inv E call ops a9 size T H v wt B lo0 m w₀ a₀ S c M a w){l:Nat}{o:Oper}(ho:ops[l]? =some o)(hk:kindOf o.op= .load)(hl:¬ S l)(hw:wt l=true)
  (hg:∀ (e:Nat) (p:Oper),c≤e→e<l→ops[e]? =some p→dP p→wt e=true→∃ bm,a9[e]? =some bm∧bm.grow=true):lM E call lo0 (T l) (H l).next (v l) o M w:=by
 by_cases rW:l<c
 ·exact I.Ls l o ho hk rW hl hw
 ·obtain⟨bm,hi⟩:=hS.stat.info l o ho
  obtain⟨_,H',h1,h2⟩:=hS.text.done l o bm (jE ho) hi hw
  rcases(Ge hk h1).2 with h|⟨x,u,r,ob,h3,h4,h5,h6,h7⟩
  ·exact .inl h
  ·refine .inr (.inl ⟨x,u,r,h3,h4,h5,fun hr p hp=>?_⟩)
   have:=I.trace hS (l-c) (by have:=jF ho;omega) (fun e p h1 h2=>hg e p h1 (by omega)) r p ob hp (by rw[show c+(l-c)=l by omega];exact hr) (by rw[show c+(l-c)=l by omega];exact h6)
   rw[show c+(l-c)=l by omega]at this
   obtain⟨u',h8,h9⟩:=this
   refine⟨ob,(I.rk.obj u' r p ob hp h9).mono (AB M h8) rfl,fun cs g z t tM=>?_,h7⟩
   subst tM
   have:=I.rk.bK u' r p cs g z t hp h9
   omega
theorem Inv.TE(hS:Setup E call ops a9 size T H v wt)(I:Inv E call ops a9 size T H v wt B lo0 m w₀ a₀ S c M a w){l:Nat}{o:Oper}(ho:ops[l]? =some o)(hk:kindOf o.op= .load)(hl:¬ S l)(hw:wt l=true)
  (hg:∀ (e:Nat) (p:Oper),c≤e→e<l→ops[e]? =some p→dP p→wt e=true→∃ bm,a9[e]? =some bm∧(bm.grow=true∨((appOf p.op).isSome=true∧bm.apart≠[])∧(∃ty x,o.op= .load ty x)∧∀ gE,a9[l]? =some gE→gE.apart≠[])):lM E call lo0 (T l) (H l).next (v l) o M w:=by
 by_cases Gl:∃ (e:Nat) (p:Oper) (bm:Info),c≤e∧e<l∧ops[e]? =some p∧dP p∧wt e=true∧a9[e]? =some bm∧(∃ty x,o.op= .load ty x)∧∀ gE,a9[l]? =some gE→gE.apart≠[]
 ·obtain⟨e,p,ziH,e1,e2,e3,e4,e5,e6,⟨ty,x,bW⟩,e8⟩:=Gl
  have rW:¬ l<c:=by omega
  obtain⟨bm,hi⟩:=hS.stat.info l o ho
  obtain⟨cK,H',h1,h2⟩:=hS.text.done l o bm (jE ho) hi hw
  rcases(Ge hk h1).2 with h|⟨x',u,r,ob,h3,h4,h5,h6,h7⟩
  ·exact .inl h
  ·have TF:∃ cs tp,ob= .row cs none tp:=by
    have aX:=e8 bm hi
    rw[bW]at h3
    simp only[loadsFrom,wi]at h3
    subst h3
    revert cK aX
    cases bm.apart with
    |nil=>exact fun _ h=>absurd rfl h
    |cons q t=>
     intro cK _
     rw[bW]at cK
     simp only[storeApart,appOf]at cK
     split at cK
     ·rename_i r' k' n' hf
      simp only[footOf,h4,wo,we]at hf
      obtain⟨i,_,hf⟩:=hf
      split at hf
      ·rename_i r2 o2
       simp only[wi,wk]at hf
       simp only[rowOfV,wi]at h5
       have e9:r'=r:=by rw[←hf.1,h5]
       subst e9
       split at cK
       ·rename_i cs tp aC
        have tS:(H l).objs.get r'=some ob:=h6
        rw[aC]at tS
        exact⟨cs,tp,(waH tS).symm⟩
       ·cases cK
      ·cases hf
     ·cases cK
   obtain⟨cs,tp,rfl⟩:=TF
   refine .inr (.inl ⟨x',u,r,h3,h4,h5,fun hr p hp=>?_⟩)
   have:=I.TB hS (l-c) (by have:=jF ho;omega) (fun e p h1 h2 h3 h4 h5=>by
    obtain⟨bm,q1,q2⟩:=hg e p h1 (by omega) h3 h4 h5
    exact⟨bm,q1,q2.imp id fun q=>q.1⟩) r p cs tp hp (by rw[show c+(l-c)=l by omega];exact hr) (by rw[show c+(l-c)=l by omega];exact h6)
   rw[show c+(l-c)=l by omega]at this
   obtain⟨u',h8,h9⟩:=this
   exact⟨_,(I.rk.obj u' r p _ hp h9).mono (AB M h8) rfl,(fun cs g z t tM=>by simp at tM),h7⟩
 ·refine I.Gk hS ho hk hl hw fun e p h1 h2 hp cU tT=>?_
  obtain⟨bm,q1,q2⟩:=hg e p h1 h2 hp cU tT
  rcases q2 with q2|⟨_,q3,q4⟩
  ·exact⟨bm,q1,q2⟩
  ·exact absurd ⟨e,p,bm,h1,h2,hp,cU,tT,q1,q3,q4⟩ Gl
theorem Inv.skip(hS:Setup E call ops a9 size T H v wt)(I:Inv E call ops a9 size T H v wt B lo0 m w₀ a₀ S c M a w){i:Nat}{o:Oper}(ho:ops[i]? =some o)(hi:¬ S i)(hd:∀ j,dy ops i j→S j)(hw:wt i=false):
  Inv E call ops a9 size T H v wt B lo0 m w₀ a₀ (fun j=>S j∨j=i) (upto c i o) M (a.put o.dst undef) w:=by
 obtain⟨p1,p2,p3,p4,p5⟩:=I.plain hS ho hi hd
 have dt:=hS.still ho (.inl hw)
 have hlt:=jF ho
 have hv:=(hS.text.skip i o (jE ho) hw).1
 have hc:c≤upto c i o:=by
  by_cases he:dP o
  ·rw[tQ he];have:=(I.uZ hS ho hi hd he).1;omega
  ·rw[tR he];exact wy _
 have hK:∀ u r p x,M r=some p→rT ops H (fun j=>S j∨j=i) (upto c i o) u r x→∃ u',u'≤u∧rT ops H S c u' r x:=by
  rintro u r p x hm (⟨rfl,h1,h2⟩|⟨j,h1,h2,h3,h4,h5,h6,rfl,h7,h8⟩)
  ·by_cases he:dP o
   ·rw[tQ he]at h1 h2⊢
    obtain⟨e1,_,_,e4⟩:=I.uZ hS ho hi hd he
    rw[dt]at h1 h2⊢
    have:=I.trace hS (i-c) (by omega) (fun e p h1 h2 hp cU=>absurd cU (e4 e p h1 (by omega) hp)) r p x hm (by rw[show c+(i-c)=i by omega];exact h1) (by rw[show c+(i-c)=i by omega];exact h2)
    rwa [show c+(i-c)=i by omega]at this
   ·rw[tR he]at h1 h2⊢
    exact⟨_,wy _,.inl ⟨rfl,h1,h2⟩⟩
  ·have jG:j≠i:=fun h=>by subst h;rw[dt]at h6;omega
   exact⟨_,wy _,.inr ⟨j,by omega,h2,h3.resolve_right jG,h4,h5,h6,rfl,h7,h8⟩⟩
 have hG:∀ g l,(H (upto c i o)).grps.get g=some l→(H c).grps.get g=some l:=fun g l hl=>by
  by_cases he:dP o
  ·rw[tQ he,dt]at hl
   obtain⟨e1,_,_,e4⟩:=I.uZ hS ho hi hd he
   have:=I.grps hS (i-c) (by omega) (fun e p h1 h2 hp cU=>absurd cU (e4 e p h1 (by omega) hp))
   rw[show c+(i-c)=i by omega]at this
   rwa [this]at hl
  ·rwa [tR he]at hl
 refine⟨p1,p2,p3,p4,p5,I.out.skip i,I.rk.Gm hK hG,fun j r p h1 h2 h3 h4 h5=>?_,fun l ol fN hk h1 h2 h3=>?_,?_,fun t k hk jb u hu=>?_,fun t ht=>?_,?_⟩
 ·have jG:j≠i:=fun h=>by subst h;rw[dt]at h5;omega
  exact I.Aw j r p (by omega) (h2.resolve_right jG) h3 h4 h5
 ·have hl:¬ S l:=fun h=>h2 (.inl h)
  refine I.Gk hS fN hk hl h3 fun e p e1 e2 hp cU=>?_
  by_cases he:dP o
  ·rw[tQ he]at h1
   obtain⟨_,_,_,e4⟩:=I.uZ hS ho hi hd he
   exact absurd cU (e4 e p e1 (by omega) hp)
  ·rw[tR he]at h1;omega
 ·cases o.dst<;>simp[Act.put,I.Ax]
 ·exact I.Gi hS ho hi hd M.le_refl (by rw[hv];exact F2 _) t k hk jb u hu
 ·have:o.dst≠some t:=ht i o ho
  cases AD:o.dst with
  |none=>exact I.cJ t ht
  |some d=>rw[uY,wa8 (fun h=>this (by rw[AD,h]))];exact I.cJ t ht
 ·cases o.dst<;>exact I.defers
theorem lM.mono{T:Tr Value}{n:Nat}{u:Value}{o:Oper}{M':Match}{w':World}(h:lM E call lo0 T n u o M w)(ck:M.le M')(hM:∀ r p,r<n→M' r=some p→M r=some p)
  (hb:∀ r p,r<n→M r=some p→w'.heap[p.ax]? =w.heap[p.ax]?):lM E call lo0 T n u o M' w':=by
 rcases h with h|⟨x,y,r,h1,h2,h3,h4⟩|⟨ty,x,r,q,h1,h2,h3⟩
 ·exact .inl h
 ·refine .inr (.inl ⟨x,y,r,h1,h2,h3,fun hr p hp=>?_⟩)
  have iS:=hM r p hr hp
  obtain⟨ob,h5,h6⟩:=h4 hr p iS
  exact⟨ob,h5.mono (rV ck n) (hb r p hr iS),h6⟩
 ·refine .inr (.inr ⟨ty,x,r,q,h1,h2,fun hr p hp=>?_⟩)
  have iS:=hM r p hr hp
  obtain⟨i,cs,iD,C,e,fr,h4,h5,h6,h7,h8⟩:=h3 hr p iS
  exact⟨i,cs,iD,C,e,fr,h4,(hb r p hr iS).trans h5,h6,h7.mono (rV ck n),h8⟩
theorem Inv.Ly(hS:Setup E call ops a9 size T H v wt)(I:Inv E call ops a9 size T H v wt B lo0 m w₀ a₀ S c M a w){i:Nat}(hi:i≤ops.size):∀ r p,m r=some p→r<(H i).next:=fun r p hr=>by
 rcases I.out.dom r p (I.out.le r p hr)with⟨_,h⟩|⟨h,_⟩
 ·exact wq h (hS.mono (wJ i) hi)
 ·rw[hr]at h;cases h
theorem Inv.join_le(hS:Setup E call ops a9 size T H v wt)(I:Inv E call ops a9 size T H v wt B lo0 m w₀ a₀ S c M a w){i:Nat}(hi:¬ S i)(hlt:i<ops.size)(m':Match):M.le (join M m' (H i).next (H (i+1)).next):=fun r p hr=>by
 have:=I.uW hS hi hlt hr
 unfold join
 rw[wI this];exact hr
theorem Lz(I:Inv E call ops a9 size T H v wt B lo0 m w₀ a₀ S c M a w){i:Nat}{o:Oper}(ho:ops[i]? =some o)(v':Value)(t:Tmp)(ht:∀ (j:Nat) (o:Oper),ops[j]? =some o→o.dst≠some t):(a.put o.dst v').tmps[t]? =a₀.tmps[t]? :=by
 have:o.dst≠some t:=ht i o ho
 cases AD:o.dst with
 |none=>exact I.cJ t ht
 |some d=>rw[uY,wa8 (fun h=>this (by rw[AD,h]))];exact I.cJ t ht
theorem Inv.quiet(hS:Setup E call ops a9 size T H v wt)(I:Inv E call ops a9 size T H v wt B lo0 m w₀ a₀ S c M a w){i:Nat}{o:Oper}(ho:ops[i]? =some o)(hi:¬ S i)(hd:∀ j,dy ops i j→S j)(aX:¬ dP o)
  {Hx oG:Heap} (an:(H i).next≤Hx.lo) (hl0:lo0≤(H 0).lo) {m':Match} {w':World} {v':Value} (hg:Good B lo0 (below M (H i).next) Hx w m' oG w') (hv:VRel m' (v i) v')
  (TG:∀ r p,m' r=some p→below M (H i).next r=some p∨((H i).next≤r∧r<(H (i+1)).next)) (LA:(H (i+1)).next≤(H i).next+1) (mL:kindOf o.op= .alloc∨(H (i+1)).next=(H i).next)
  (tM:∀ r p x,m' r=some p→(H i).next≤r→r<(H (i+1)).next→(H (i+1)).objs.get r=some x→uU x∧iP (decide (lo0≤r)) m' p w' x):
  Inv E call ops a9 size T H v wt B lo0 m w₀ a₀ (fun j=>S j∨j=i) (upto c i o) (join M m' (H i).next (H (i+1)).next) (a.put o.dst v') w':=by
 obtain⟨p1,p2,p3,p4,p5⟩:=I.plain hS ho hi hd
 have hlt:=jF ho
 have yb:(H i).next≤(H (i+1)).next:=(hS.x9 ho).ag
 have nN:=I.join_le hS hi hlt m'
 have aC:=fun r p=>I.uW (r:=r) (p:=p) hS hi hlt
 have gP:∀ b,b<w.heap.size→w'.heap[b]? =w.heap[b]? :=fun b hb=>hg.frame b hb fun r p hr hl=>by
  have:=(dn.1 hr).1
  omega
 have Gp:∀ r p,m' r=some p→(H i).next≤r→w.heap.size≤p.ax:=fun r p hr cf=>by
  rcases hg.ax r p hr (by unfold below;rw[wI (by omega)])with h|⟨r₀,p₀,h1,h2,_⟩
  ·exact h
  ·have:=(dn.1 h1).1;omega
 have cX:∀ r p,join M m' (H i).next (H (i+1)).next r=some p→M r=some p∨(M r=none∧(H i).next≤r∧r<(H (i+1)).next∧m' r=some p):=fun r p hr=>by
  unfold join at hr
  split at hr
  ·rename_i cf
   refine .inr ⟨?_,cf.1,cf.2,hr⟩
   cases hm:M r with
   |none=>rfl
   |some q=>exact absurd cf (aC r q hm)
  ·exact .inl hr
 have ve:m'.le (below (join M m' (H i).next (H (i+1)).next) (H (i+1)).next):=fun r p hr=>by
  rcases TG r p hr with h|h
  ·obtain⟨h1,h2⟩:=dn.1 h
   exact dn.2 ⟨by omega,nN r p h2⟩
  ·refine dn.2 ⟨h.2,?_⟩
   unfold join
   rw[wF h];exact hr
 have LB:(H i).next<(H (i+1)).next→c≤i:=fun h=>by
  apply wcF
  intro TH
  rcases mL with h1|h1
  ·exact hi (I.Dl i o ho h1 TH)
  ·omega
 rw[tR aX]at p3 p4 p5⊢
 refine⟨p1,p2,p3,p4,p5,I.out.step (I.Ly hS (waz hlt)) hg ?_,?_,?_,fun l ol fN hk h1 h2 h3=>?_,?_,fun t k hk jb u hu=>?_,Lz I ho v',?_⟩
 ·have:=hS.mono (wJ i) (waz hlt)
  have:=hS.lo
  omega
 ·refine I.rk.extend nN hg.size gP (fun r p hr hm=>?_) (fun r r' p p' hr hm cp eC=>?_) (fun u r p x hr hx=>?_)
  ·rcases cX r p hr with h|⟨_,h1,h2,h3⟩
   ·rw[hm]at h;cases h
   ·have:=hS.lo
    have:=hS.mono (wJ i) (waz hlt)
    exact⟨by omega,Gp r p h3 h1,(hg.rel.dom r p h3).2.1⟩
  ·rcases cX r p hr with h|⟨_,h1,h2,h3⟩
   ·rw[hm]at h;cases h
   ·rcases cX r' p' cp with h|⟨_,dS,eo,vg⟩
    ·rw[eC]at h;cases h
    ·omega
  ·rcases hx with⟨rfl,h1,h2⟩|⟨j,h1,h2,h3,h4,h5,h6,rfl,h7,h8⟩
   ·rcases cX r p hr with h|⟨_,h3,h4,_⟩
    ·exact .inl ⟨h,.inl ⟨rfl,h1,h2⟩⟩
    ·have:=LB (by omega)
     have:=hS.mono this (waz hlt)
     omega
   ·by_cases jG:j=i
    ·subst jG
     rcases cX r p hr with h|⟨h9,aZ,aY,bH⟩
     ·exact absurd ⟨h5,h6⟩ (aC r p h)
     ·obtain⟨bQ,jZ⟩:=tM r p x bH aZ aY h7
      exact .inr ⟨h9,bQ,jZ.mono ve rfl⟩
    ·have tU:=h3.resolve_right jG
     rcases cX r p hr with h|⟨_,aZ,aY,_⟩
     ·exact .inl ⟨h,.inr ⟨j,h1,h2,tU,h4,h5,h6,rfl,h7,h8⟩⟩
     ·by_cases TJ:j<i
      ·have:=hS.mono (i:=j+1) (j:=i) TJ (waz hlt);omega
      ·have:=hS.mono (i:=i+1) (j:=j) (by omega) (waz h2);omega
 ·intro j r p h1 h2 h3 h4 h5 hr r' p' TK cp hb
  rcases cX r p hr with h|⟨_,h6,h7,h8⟩
  ·have jG:j≠i:=fun h'=>by subst h';exact aC r p h ⟨h4,h5⟩
   rcases cX r' p' cp with h'|⟨_,tS,TL,LC⟩
   ·exact I.Aw j r p h1 (h2.resolve_right jG) h3 h4 h5 h r' p' TK h' hb
   ·have:=(I.rk.dom r p h).1
    have:=Gp r' p' LC tS
    omega
  ·rcases cX r' p' cp with h'|⟨_,tS,TL,LC⟩
   ·have:=(I.rk.dom r' p' h').1
    have:=Gp r p h8 h6
    omega
   ·omega
 ·refine(I.Ls l ol fN hk h1 (fun h=>h2 (.inl h)) h3).mono nN (fun r p hr hp=>?_) (fun r p _ hp=>gP _ (I.rk.dom r p hp).1)
  rcases cX r p hp with h|⟨_,h4,h5,_⟩
  ·exact h
  ·have:=LB (by omega)
   have:=hS.mono (i:=l) (j:=i) (by omega) (waz hlt)
   omega
 ·cases o.dst<;>simp[Act.put,I.Ax]
 ·exact I.Gi hS ho hi hd nN (hv.mono ve) t k hk jb u hu
 ·cases o.dst<;>exact I.defers
theorem jD.union{m₁ m':Match}{K' K₁:Nat→Nat→AObj→Prop}{G:Nat→List Nat→Prop}{w:World}(h:jD B lo0 m' K₁ G w)(ck:m'.le m₁)(TM:∀ r p,m₁ r=some p→p.ax<w.heap.size∧(lo0≤r→B≤p.ax)∧(r<lo0→p.ax<B))
  (hK:∀ u r p x,m₁ r=some p→K' u r x→(m' r=some p∧K₁ u r x)∨(uU x∧iP (decide (lo0≤r)) (below m₁ u) p w x∧∀ r' p',r'≠r→m₁ r'=some p'→p'.ax≠p.ax)):jD B lo0 m₁ K' G w where
 base:=h.base
 fJ:=h.fJ
 dom:=TM
 obj u r p o hr ho:=by
  rcases hK u r p o hr ho with⟨h1,h2⟩|⟨_,h3,_⟩
  ·exact(h.obj u r p o h1 h2).mono (rV ck u) rfl
  ·exact h3
 sep u u' r r' p p' o o' aX hl hr cp ho bJ hb:=by
  rcases hK u r p o hr ho with⟨h1,h2⟩|⟨_,_,h3⟩
  ·rcases hK u' r' p' o' cp bJ with⟨dS,eo⟩|⟨_,_,h3⟩
   ·exact h.sep u u' r r' p p' o o' aX hl h1 dS h2 eo hb
   ·exact absurd hb (h3 r p aX hr)
  ·exact absurd hb.symm (h3 r' p' (wbl aX) cp)
 dw u u' r r' p p' c c' g z z' hr cp ho bJ:=by
  rcases hK u r p _ hr ho with⟨h1,h2⟩|⟨h3,_⟩
  ·rcases hK u' r' p' _ cp bJ with⟨dS,eo⟩|⟨h3,_⟩
   ·exact h.dw u u' r r' p p' c c' g z z' h1 dS h2 eo
   ·exact absurd rfl (h3 _ _ _)
  ·exact absurd rfl (h3 _ _ _)
 aT u r p c g z hr ho l hl:=by
  rcases hK u r p _ hr ho with⟨h1,h2⟩|⟨h3,_⟩
  ·exact h.aT u r p c g z h1 h2 l hl
  ·exact absurd rfl (h3 _ _ _)
 ends u u' r r' p p' c c' g z z' t hr cp ho bJ hb:=by
  rcases hK u r p _ hr ho with⟨h1,h2⟩|⟨h3,_⟩
  ·rcases hK u' r' p' _ cp bJ with⟨dS,eo⟩|⟨h3,_⟩
   ·exact h.ends u u' r r' p p' c c' g z z' t h1 dS h2 eo hb
   ·exact absurd rfl (h3 _ _ _)
  ·exact absurd rfl (h3 _ _ _)
 bK u r p c g z t hr ho:=by
  rcases hK u r p _ hr ho with⟨h1,h2⟩|⟨h3,_⟩
  ·exact h.bK u r p c g z t h1 h2
  ·exact absurd rfl (h3 _ _ _)
theorem Inv.effect(hS:Setup E call ops a9 size T H v wt)(I:Inv E call ops a9 size T H v wt B lo0 m w₀ a₀ S c M a w){i:Nat}{o:Oper}(ho:ops[i]? =some o)(hi:¬ S i)(hd:∀ j,dy ops i j→S j)(he:dP o)
  {Hx oG:Heap} (an:(H 0).lo≤Hx.lo) (cf:Hx.next=(H i).next) (hx:H (i+1)={objs:=oG.objs,grps:=oG.grps,next:=oG.next,lo:=(H i).lo}) {m':Match} {w':World} {v':Value} (hg:Good B lo0 (below M (H i).next) Hx w m' oG w')
  (hv:VRel m' (v i) v') (TN:∀ (l:Nat) (ol:Oper),ops[l]? =some ol→kindOf ol.op= .load→l<i→¬ S l→wt l=true→lM E call lo0 (T l) (H l).next (v l) ol M w→
   lM E call lo0 (T l) (H l).next (v l) ol (join M m' (H i).next (H (i+1)).next) w'):
  Inv E call ops a9 size T H v wt B lo0 m w₀ a₀ (fun j=>S j∨j=i) (upto c i o) (join M m' (H i).next (H (i+1)).next) (a.put o.dst v') w':=by
 obtain⟨p1,p2,p3,p4,p5⟩:=I.plain hS ho hi hd
 obtain⟨e1,e2,e3,e4⟩:=I.uZ hS ho hi hd he
 have hlt:=jF ho
 have yb:(H i).next≤(H (i+1)).next:=(hS.x9 ho).ag
 have nN:=I.join_le hS hi hlt m'
 have aC:=fun r p=>I.uW (r:=r) (p:=p) hS hi hlt
 have jH:oG.next=(H (i+1)).next:=by rw[hx]
 have lN:∀ r p,m' r=some p→r<(H (i+1)).next:=fun r p hr=>by rw[←jH];exact(hg.rel.dom r p hr).1
 have Gq:∀ r p,join M m' (H i).next (H (i+1)).next r=some p→r<(H (i+1)).next→m' r=some p:=fun r p hr jd=>by
  unfold join at hr
  split at hr
  ·exact hr
  ·rename_i hn
   exact hg.le r p (dn.2 ⟨by omega,hr⟩)
 have tV:∀ r p,join M m' (H i).next (H (i+1)).next r=some p→¬ ((H i).next≤r∧r<(H (i+1)).next)→M r=some p:=fun r p hr hn=>by
  unfold join at hr
  rw[wI hn]at hr;exact hr
 have ve:m'.le (join M m' (H i).next (H (i+1)).next):=fun r p hr=>by
  by_cases hn:(H i).next≤r
  ·unfold join;rw[wF ⟨hn,lN r p hr⟩];exact hr
  ·rcases hg.new r p hr with h|⟨_,h⟩
   ·exact nN r p (dn.1 h).2
   ·omega
 have TO:m'.le (below (join M m' (H i).next (H (i+1)).next) (H (i+1)).next):=fun r p hr=>dn.2 ⟨lN r p hr,ve r p hr⟩
 have LD:∀ j r p,i+1≤j→S j→Gg ops j→(H j).next≤r→r<(H (j+1)).next→M r=some p→∀ r' p',r'≠r→join M m' (H i).next (H (i+1)).next r'=some p'→p'.ax≠p.ax:=by
  intro j r p h1 h2 h3 h4 h5 h6 r' p' aX cp hb
  have jG:=hS.mono (i:=i+1) (j:=j) h1 (waz (I.lt j h2))
  by_cases hn:(H i).next≤r'∧r'<(H (i+1)).next
  ·have TP:=Gq r' p' cp hn.2
   rcases hg.ax r' p' TP (by unfold below;rw[wI (by omega)])with h|⟨r₀,p₀,h7,h8,h9⟩
   ·have:=(I.rk.dom r p h6).1;omega
   ·obtain⟨aZ,aY⟩:=dn.1 h7
    exact I.Aw j r p (by omega) h2 h3 h4 h5 h6 r₀ p₀ (by omega) aY (h9.trans hb)
  ·exact I.Aw j r p (by omega) h2 h3 h4 h5 h6 r' p' aX (tV r' p' cp hn) hb
 rw[tQ he]at p3 p4 p5⊢
 refine⟨p1,p2,p3,p4,p5,I.out.step (I.Ly hS (waz hlt)) hg an,?_,?_,fun l ol fN hk h1 h2 h3=>?_,?_,fun t k hk jb u hu=>?_,Lz I ho v',?_⟩
 ·have hR:=jD.LF hg.rel
  refine(hR.union (K':=rT ops H (fun j=>S j∨j=i) (i+1)) ve (fun r p hr=>?_) (fun u r p x hr vh=>?_)).Gm (fun u r p x _ h=>⟨u,wy _,h⟩) (fun g l hl=>by rw[hx]at hl;exact hl)
  ·by_cases hn:(H i).next≤r∧r<(H (i+1)).next
   ·exact(hg.rel.dom r p (Gq r p hr hn.2)).2
   ·obtain⟨h1,h2⟩:=I.rk.dom r p (tV r p hr hn)
    exact⟨wq h1 hg.size,h2⟩
  ·rcases vh with⟨rfl,h1,h2⟩|⟨j,h1,h2,h3,h4,h5,h6,rfl,h7,h8⟩
   ·exact .inl ⟨Gq r p hr h1,jH.symm,by rw[hx]at h2;exact h2⟩
   ·have jG:=hS.mono (i:=i+1) (j:=j) h1 (waz h2)
    have tU:S j:=h3.resolve_right (by omega)
    have Dm:=tV r p hr (by omega)
    refine .inr ⟨h8,?_,fun r' p' aX cp=>LD j r p h1 tU h4 h5 h6 Dm r' p' aX cp⟩
    refine(I.rk.obj _ r p x Dm (.inr ⟨j,by omega,h2,tU,h4,h5,h6,rfl,h7,h8⟩)).mono (rV nN _) (hg.frame _ (I.rk.dom r p Dm).1 fun r₁ p₁ Gs _=>?_)
    obtain⟨h9,aZ⟩:=dn.1 Gs
    exact I.Aw j r p (by omega) tU h4 h5 h6 Dm r₁ p₁ (by omega) aZ
 ·intro j r p h1 h2 h3 h4 h5 hr r' p' aX cp
  have tU:S j:=h2.resolve_right (by omega)
  have jG:=hS.mono (i:=i+1) (j:=j) h1 (waz (I.lt j tU))
  exact LD j r p h1 tU h3 h4 h5 (tV r p hr (by omega)) r' p' aX cp
 ·have hl:¬ S l:=fun h=>h2 (.inl h)
  have ke:l<i:=by
   have:l≠i:=fun h=>h2 (.inr h)
   omega
  exact TN l ol fN hk ke hl h3 (I.Gk hS fN hk hl h3 fun e p h4 h5 hp cU=>absurd cU (e4 e p h4 (by omega) hp))
 ·cases o.dst<;>simp[Act.put,I.Ax]
 ·exact I.Gi hS ho hi hd nN (hv.mono TO) t k hk jb u hu
 ·cases o.dst<;>exact I.defers
end
variable[Maps]{B lo0:Nat}{E:Env}
theorem TQ(hE:EnvOk E){call:cT}{m:Match}{H H':Heap}{w:World}{T:Tr Value}{a:Act}{o:Oper}{t:TypeId}{x y:Operand}{v:Value}(hR:Rel B lo0 m H w)(ht:fk m T a.tmps)(ho:o.op= .store t x y)(h:exOp E call T o H=some (v,H')):
  ∃(r k n:Nat) (p:dO) (C:Array Value) (e:TypeId) (fr:Nat×Nat) (new cC:List Value),footOf E T o.op=some (r,k,n)∧H.lo≤r∧m r=some p∧w.heap[p.ax]? =some (.cells C e fr)∧new.length=n∧LRel m new cC∧
   (∃cells g,H.objs.get r=some (.row cells g true)∧k+n≤cells.length∧p.base+cells.length≤C.size)∧
   (execOp a.eval o).run E.P w= .ok .skip (dI w p.ax (.cells (lj C (p.base+k) cC) e fr)):=by
 unfold exOp at h
 simp only[ho,we,wi,wk]at h
 obtain⟨u,h1,u2,h2,H2,h3,rfl,rfl⟩:=h
 have hx:=cE ht h1
 have hy:=cE ht h2
 unfold tI at h3
 split at h3
 ·rename_i r k
  simp only[we]at h3
  obtain⟨n,h4,h5⟩:=h3
  obtain⟨h6,h7⟩:=cn h5
  have h6:(cg u2).length=n:=by simpa using h6
  obtain⟨cells,bK,g1,g2,g3,g4,_⟩:=Heap.Gt h7
  generalize Gu:a.eval x=x' at hx
  generalize TR:a.eval y=y' at hy
  cases hx with
  |ptr hm=>
   rename_i p
   have hn:=yg hy
   have an:lo0≤r:=wK hR.lo g1
   obtain⟨⟨C,e,fr,c1,c2,c3,c4,c5⟩,c6,c7⟩:=hR.obj r p _ hm g3
   have cF:(cg y').all isCell=true:=by
    rw[waC]at g2⊢
    intro v' dq
    obtain⟨i,hi⟩:=wbx.1 dq
    have hlt:i<(cg u2).length:=by rw[hn.1];exact(wD.1 hi).1
    rw[FH (hn.2 i _ v' (wj hlt) hi)]
    exact g2 _ (wam hlt)
   have bG:=CO (P:=E.P) (o:=p.base+k) (cg y') 0 w C c1 (by rw[←hn.1];omega) (fun j _ h=>c3 (wz an) j (by rw[←hn.1]at h;omega)) cF
   refine⟨r,k,n,p,C,e,fr,cg u2,cg y',?_,g1,hm,c1,h6,hn,⟨cells,bK,g3,by omega,c4⟩,?_⟩
   ·simp only[ho,footOf,h1,h4,wo]
   ·have bf:y'.cells.size=n:=by rw[←waF,ju,←hn.1];exact h6
    simp only[execOp,ho,Gu,TR,Instr.storeAt,Instr.sureAddr,storeVar,wB,wC,wu,hE.size h4,bf,ne_eq,wcC,waa,ju,bG]
    rfl
 ·simp at h3
theorem TS(hE:EnvOk E){ty:TypeId}{u:Value}{m:Match}{p:dO}{q:Nat}{w:World}(h:qx E ty u m p q w):∃ v',(Instr.loadAt ty (.pointer (some ⟨p.ax,p.base+q,none⟩))).run E.P w= .ok v' w∧VRel m u v':=by
 obtain⟨i,cs,iD,C,e,fr,h1,h2,h3,h4,h5,h6,h7⟩:=h
 have mM:=hE.isAgg h1
 cases ha:i.agg with
 |true=>
  rw[ha]at h3 mM
  simp only[wai]at h3
  have kU:∀ (j:Nat) (v:Value),iD[j]? =some v→w.cell? (Addr.add ⟨p.ax,p.base+q,none⟩ j)=some v:=fun j v hv=>by
   rw[add_plain,cell?_at h2,h5 j (by rw[h4.1];exact(wD.1 hv).1)]
   exact hv
  have bG:=run_loadCells_list (P:=E.P) w ⟨p.ax,p.base+q,none⟩ _ kU
  rw[←h4.1,h3]at bG
  refine⟨.agg iD.toArray,?_,by rw[h6 ha];exact .AE h4⟩
  simp only[Instr.loadAt,Instr.sureAddr,loadVar,wB,wC,wu,mM,hE.oH h1,bG,wah]
 |false=>
  rw[ha]at h3 mM
  simp only[wS]at h3
  obtain⟨v',d1,d2⟩:=h4.get (h7 ha)
  have h8:=h5 0 (by omega)
  rw[d1]at h8
  simp only[waX]at h8
  exact⟨v',by simp[Instr.loadAt,Instr.sureAddr,loadVar,mM,cell?_at h2,h8],d2⟩
theorem Gv{ty:TypeId}{u:Value}{m:Match}{p:dO}{r q:Nat}{w:World}{H:Heap}{cells:List Value}{C:Array Value}{e:TypeId}{fr:Nat×Nat}{g:Option (Nat×Nat)}{tp:Bool}(h:loadV E H ty (ptr r q)=some u)(hr:H.objs.get r=some (.row cells g tp))
  (hw:w.heap[p.ax]? =some (.cells C e fr)) (hc:tj m cells C p.base):qx E ty u m p q w:=by
 simp only[loadV,ptr,hr,we]at h
 obtain⟨i,h1,h2⟩:=h
 cases ha:i.agg with
 |true=>
  rw[ha]at h2
  simp only[wai,we,wi]at h2
  obtain⟨l,h3,rfl⟩:=h2
  obtain⟨h4,rfl⟩:=xP h3
  have bj:((cells.drop q).take i.size).length=i.size:=by simp;omega
  have iE:∀ j v,((cells.drop q).take i.size)[j]? =some v→∃ v',C[p.base+q+j]? =some v'∧VRel m v v':=fun j v hv=>by
   rw[wab]at hv
   split at hv
   ·rw[wae]at hv
    obtain⟨v',d1,d2⟩:=hc (q+j) v hv
    exact⟨v',by rw[show p.base+q+j=p.base+(q+j) by omega];exact d1,d2⟩
   ·cases hv
  have bf:p.base+q+i.size≤C.size∨i.size=0:=by
   by_cases h0:i.size=0
   ·exact .inr h0
   ·left
    have hlt:i.size-1<((cells.drop q).take i.size).length:=by omega
    obtain⟨v',d1,_⟩:=iE (i.size-1) _ (wj hlt)
    have:=(w0.1 d1).1
    omega
  refine⟨i,(cells.drop q).take i.size,(C.toList.drop (p.base+q)).take i.size,C,e,fr,h1,hw,by rw[ha,bj];rfl,⟨by rw[bj];simp;omega,fun j v v' hv dq=>?_⟩,fun j hj=>?_,fun _=>rfl,fun h=>by rw[ha]at h;cases h⟩
  ·obtain⟨rD,d1,d2⟩:=iE j v hv
   rw[wab]at dq
   split at dq
   ·rw[wae,wao,d1]at dq
    cases dq;exact d2
   ·cases dq
  ·rw[wab,wF (by rw[bj]at hj;exact hj),wae,wao]
 |false=>
  rw[ha]at h2
  simp only[wS]at h2
  obtain⟨v',d1,d2⟩:=hc q u h2
  refine⟨i,[u],[v'],C,e,fr,h1,hw,by rw[ha];rfl,.one d2,fun j hj=>?_,(fun h=>by rw[ha]at h;cases h),(fun _=>rfl)⟩
  have:j=0:=by simpa using hj
  subst this
  simpa using d1
theorem LG{T:Tr Value}{H:Heap}{r o n:Nat}:∀ {l:List Op},apartFrom E T H r o n l=true→∀ p∈l,∀r' o' n',footOf E T p=some (r',o',n')→(r=r'∧(o+n≤o'∨o'+n'≤o))∨(r≠r'∧(H.objs.get r').isSome=true)
 |q::l,h,p,hp,r',o',n',hf=>by
  simp only[apartFrom,wA]at h
  rcases wad.1 hp with rfl|hp
  ·have h1:=h.1
   rw[hf]at h1
   simp only at h1
   cases hb:Nat.beq r r' with
   |true=>
    rw[hb]at h1
    simp only[wai,wbR,wbi]at h1
    exact .inl ⟨by simpa using hb,h1⟩
   |false=>
    rw[hb]at h1
    exact .inr ⟨fun h=>by subst h;simp at hb,h1⟩
  ·exact LG h.2 p hp r' o' n' hf
variable{call:cT}{ops:Array Oper}{a9:List Info}{size:Nat}{T:Nat→Tr Value}{H:Nat→Heap}{v:Nat→Value}{wt:Nat→Bool}
variable{m:Match}{w₀:World}{a₀:Act}{S:Nat→Prop}{c:Nat}{M:Match}{a:Act}{w:World}
theorem TT{T₁:Tr Value}{n₁:Nat}{u:Value}{o:Oper}{ty:TypeId}{x:Operand}{M':Match}{w':World}{k:Nat}{p:dO}{C:Array Value}{e:TypeId}{fr:Nat×Nat}{cC:List Value}(h:lM E call lo0 T₁ n₁ u o M w)(ho:o.op= .load ty x)(qz:∀ k,k<n₁→Maps.low k)
  (ck:M.le M') (hM:∀ r p,r<n₁→M' r=some p→M r=some p) (hb:w.heap[p.ax]? =some (.cells C e fr)) (gP:∀ b,b≠p.ax→w'.heap[b]? =w.heap[b]?) (hw:w'.heap[p.ax]? =some (.cells (lj C (p.base+k) cC) e fr))
  (bf:p.base+k+cC.length≤C.size)
  (cK:∀ r' o' n' p',footOf E T₁ o.op=some (r',o',n')→M r'=some p'→r'<n₁→p'.ax=p.ax→p'=p∧(k+cC.length≤o'∨o'+n'≤k)):lM E call lo0 T₁ n₁ u o M' w':=by
 have key:∀ r q i,r<n₁→∀ p',M r=some p'→ev T₁ x=some (ptr r q)→E.ty.get ty=some i→qx E ty u (below M n₁) p' q w→qx E ty u (below M' n₁) p' q w':=by
  rintro r q i hr p' hp hx hi ⟨i',cs,iD,C',e',bl,h1,h2,h3,h4,h5,h6⟩
  rw[hi]at h1;cases h1
  by_cases gT:p'.ax=p.ax
  ·obtain⟨rfl,h7⟩:=cK r q (bif i.agg then i.size else 1) p' (by simp only[ho,footOf,hx,hi,wo,ptr]) hp hr gT
   rw[hb]at h2;cases h2
   refine⟨i,cs,iD,_,e,fr,hi,hw,h3,h4.mono (rV ck n₁),fun j hj=>?_,h6⟩
   rw[uL bf,wI (by omega)]
   exact h5 j hj
  ·exact⟨i,cs,iD,C',e',bl,hi,(gP _ gT).trans h2,h3,h4.mono (rV ck n₁),h5,h6⟩
 rcases h with h|⟨x',y,r,h1,h2,h3,h4⟩|⟨Gw,x',r,q,h1,h2,h3⟩
 ·exact .inl h
 ·rw[ho,loadsFrom,wi]at h1
  subst h1
  have hex:∀ Hx:Heap,exOp E call T₁ o Hx=(loadV E Hx ty y).bind fun v=>some (v,Hx):=fun Hx=>by
   unfold exOp
   simp only[ho,h2,wo]
  cases y with
  |pointer a=>
   cases a with
   |none=>simp[rowOfV]at h3
   |some ad=>
    obtain⟨b,q,el⟩:=ad
    simp only[rowOfV,wi]at h3
    subst h3
    cases el with
    |some z=>
     refine .inr (.inl ⟨x,_,b,by rw[ho];rfl,h2,rfl,fun hr p' hp=>?_⟩)
     obtain⟨ob,_,_,h7⟩:=h4 hr p' (hM b p' hr hp)
     have hx:(({objs:=Tr.nil.set b ob,grps:=Tr.nil,next:=0,lo:=0}:Heap)).objs.get b=some ob:=by
      show((Tr.nil:Tr AObj).set b ob).get b=some ob
      exact Tr.mN (qz _ hr)
     have:=h7 _ hx
     rw[hex]at this
     simp[loadV]at this
    |none=>
     refine .inr (.inr ⟨ty,x,b,q,ho,h2,fun hr p' hp=>?_⟩)
     have iS:=hM b p' hr hp
     obtain⟨ob,h5,h6,h7⟩:=h4 hr p' iS
     have hx:(({objs:=Tr.nil.set b ob,grps:=Tr.nil,next:=0,lo:=0}:Heap)).objs.get b=some ob:=by
      show((Tr.nil:Tr AObj).set b ob).get b=some ob
      exact Tr.mN (qz _ hr)
     have h8:=h7 _ hx
     rw[hex,we]at h8
     obtain⟨u',h9,aZ⟩:=h8
     simp only[wi,wk]at aZ
     rw[aZ.1]at h9
     have aC:∃ cells g tp i,ob= .row cells g tp∧E.ty.get ty=some i:=by
      have aY:=h9
      simp only[loadV,hx]at aY
      split at aY
      ·rename_i cells g tp ig
       simp only[wi]at ig
       simp only[we]at aY
       obtain⟨i,bH,_⟩:=aY
       exact⟨cells,g,tp,i,ig,bH⟩
      ·simp at aY
     obtain⟨cells,g,tp,i,rfl,hi⟩:=aC
     obtain⟨⟨C',e',bl,c1,c2,c3,c4,c5⟩,_⟩:=h5
     exact key b q i hr p' iS h2 hi (Gv h9 hx c1 c5)
  |slice _ _ _=>
   refine .inr (.inl ⟨x,_,r,by rw[ho];rfl,h2,h3,fun hr p' hp=>?_⟩)
   obtain⟨ob,_,_,h7⟩:=h4 hr p' (hM r p' hr hp)
   have hx:(({objs:=Tr.nil.set r ob,grps:=Tr.nil,next:=0,lo:=0}:Heap)).objs.get r=some ob:=by
    show((Tr.nil:Tr AObj).set r ob).get r=some ob
    exact Tr.mN (qz _ hr)
   have:=h7 _ hx
   rw[hex]at this
   simp[loadV]at this
  |map _=>
   refine .inr (.inl ⟨x,_,r,by rw[ho];rfl,h2,h3,fun hr p' hp=>?_⟩)
   obtain⟨ob,_,_,h7⟩:=h4 hr p' (hM r p' hr hp)
   have hx:(({objs:=Tr.nil.set r ob,grps:=Tr.nil,next:=0,lo:=0}:Heap)).objs.get r=some ob:=by
    show((Tr.nil:Tr AObj).set r ob).get r=some ob
    exact Tr.mN (qz _ hr)
   have:=h7 _ hx
   rw[hex]at this
   simp[loadV]at this
  |_=>simp[rowOfV]at h3
 ·rw[ho]at h1
  cases h1
  refine .inr (.inr ⟨ty,x,r,q,ho,h2,fun hr p' hp=>?_⟩)
  have iS:=hM r p' hr hp
  have h4:=h3 hr p' iS
  have hi:=h4
  obtain⟨i,_,_,_,_,_,hi,_⟩:=hi
  exact key r q i hr p' iS h2 hi h4
theorem TU{t:TypeId}{y:Value}{lo hi mx:Option Value}{u:Value}{Hx:Heap}{r:Nat}{ob:AObj}(hx:Hx.objs.get r=some ob)(h:sliceV E Hx t y lo hi mx=some u)(hr:rowOfV y=some r):
  (∃cells bK dw,ob= .row cells bK dw∧∀ (Hy:Heap) cells',Hy.objs.get r=some (.row cells' bK dw)→sliceV E Hy t y lo hi mx=some u)∧((∃o l c,y= .slice (some ⟨r,o,none⟩) l c)∨∃ o,y= .pointer (some ⟨r,o,none⟩)):=by
 unfold sliceV at h
 simp only[we]at h
 obtain⟨i,h6,h5⟩:=h
 split at h5
 ·simp[rowOfV]at hr
 ·rename_i r' o' len cap hd
  simp only[rowOfV,wi]at hr
  subst hr
  obtain⟨hb,h5⟩:=cD h5
  simp only[we]at h5
  obtain⟨b,h7,z,h8,h5⟩:=h5
  refine⟨?_,.inl ⟨_,_,_,rfl⟩⟩
  split at h5
  ·rename_i aC
   rw[hx]at aC
   simp only[wi]at aC
   refine⟨_,_,_,aC,fun Hy cells' hy=>?_⟩
   simp only[sliceV,h6,wo,hd,hb,wS,h7,h8,hy,h5]
  ·rename_i aC
   rw[hx]at aC
   simp only[wi]at aC
   refine⟨_,_,_,aC,fun Hy cells' hy=>?_⟩
   simp only[sliceV,h6,wo,hd,hb,wS,h7,h8,hy,h5]
  ·simp at h5
 ·simp[rowOfV]at hr
 ·rename_i r' o' hd
  simp only[rowOfV,wi]at hr
  subst hr
  simp only[we]at h5
  obtain⟨b,h7,z,h8,h5⟩:=h5
  refine⟨?_,.inr ⟨_,rfl⟩⟩
  split at h5
  ·rename_i aC
   rw[hx]at aC
   simp only[wi]at aC
   refine⟨_,_,_,aC,fun Hy cells' hy=>?_⟩
   simp only[sliceV,h6,wo,hd,h7,h8,hy,h5]
  ·simp at h5
 ·simp at h5
theorem TV{T₁:Tr Value}{n₁:Nat}{u:Value}{o:Oper}{ty:TypeId}{x:Operand}{lo hi mx:Option Operand}{M':Match}{w':World}{k:Nat}{p:dO}{C:Array Value}{e:TypeId}{fr:Nat×Nat}{cC:List Value}(h:lM E call lo0 T₁ n₁ u o M w)(ho:o.op= .slice ty x lo hi mx)(qz:∀ k,k<n₁→Maps.low k)
  (ck:M.le M') (hM:∀ r p,r<n₁→M' r=some p→M r=some p) (hb:w.heap[p.ax]? =some (.cells C e fr)) (gP:∀ b,b≠p.ax→w'.heap[b]? =w.heap[b]?) (hw:w'.heap[p.ax]? =some (.cells (lj C (p.base+k) cC) e fr))
  (bf:p.base+k+cC.length≤C.size) (cK:∀ r' o' n' p',footOf E T₁ o.op=some (r',o',n')→M r'=some p'→r'<n₁→p'.ax=p.ax→p'=p):lM E call lo0 T₁ n₁ u o M' w':=by
 rcases h with h|⟨x',y,r,h1,h2,h3,h4⟩|⟨Gw,x',r,q,h1,h2,h3⟩
 ·exact .inl h
 ·rw[ho,loadsFrom,wi]at h1
  subst h1
  refine .inr (.inl ⟨x,y,r,by rw[ho];rfl,h2,h3,fun hr p' hp=>?_⟩)
  have iS:=hM r p' hr hp
  obtain⟨ob,h5,h6,h7⟩:=h4 hr p' iS
  have hx:(({objs:=Tr.nil.set r ob,grps:=Tr.nil,next:=0,lo:=0}:Heap)).objs.get r=some ob:=by
   show((Tr.nil:Tr AObj).set r ob).get r=some ob
   exact Tr.mN (qz _ hr)
  have h8:=h7 _ hx
  unfold exOp at h8
  simp only[ho,h2,wo,we,wi,wk]at h8
  obtain⟨u3,g3,u4,g4,u5,g5,u6,g6,rfl,_⟩:=h8
  obtain⟨⟨cells,bK,dw,rfl,cF⟩,hy⟩:=TU hx g6 h3
  by_cases gT:p'.ax=p.ax
  ·have TW:=cK r 0 0 p' (by rcases hy with⟨o',l,c,rfl⟩|⟨o',rfl⟩<;>simp only[ho,footOf,h2,wo]) iS hr gT
   subst TW
   refine⟨.row [] bK dw,?_,fun c g z t hc=>?_,fun Hx hx=>?_⟩
   ·obtain⟨⟨C',e',bl,c1,c2,c3,c4,c5⟩,c6,c7⟩:=h5
    rw[hb]at c1
    simp only[wi,Obj.cells.injEq]at c1
    obtain⟨rfl,rfl,rfl⟩:=c1
    have bf:(lj C (p'.base+k) cC).size=C.size:=xV bf
    exact⟨⟨_,e,fr,hw,by rw[bf];exact c2,by rw[bf];exact c3,by rw[bf];simp only[waA];omega,fun i v h=>by simp at h⟩,c6,c7⟩
   ·cases hc
    exact h6 _ _ _ _ rfl
   ·unfold exOp
    simp only[ho,h2,g3,g4,g5,wo,cF Hx [] hx]
  ·exact⟨_,h5.mono (rV ck n₁) (gP _ gT),h6,h7⟩
 ·rw[ho]at h1
  cases h1
theorem lM.cells{T₁:Tr Value}{n₁:Nat}{u:Value}{o:Oper}{ty:TypeId}{x:Operand}{r q:Nat}(h:lM E call lo0 T₁ n₁ u o M w)(ho:o.op= .load ty x)(hx:ev T₁ x=some (ptr r q))(qz:∀ k,k<n₁→Maps.low k):
  (∀Hx,exOp E call T₁ o Hx=some (u,Hx))∨(r<n₁→∀ p,M r=some p→qx E ty u (below M n₁) p q w):=by
 rcases h with h|⟨x',y,r',h1,h2,h3,h4⟩|⟨Gw,x',r',q',h1,h2,h3⟩
 ·exact .inl h
 ·rw[ho,loadsFrom,wi]at h1
  subst h1
  rw[hx,wi]at h2
  subst h2
  simp only[ptr,rowOfV,wi]at h3
  subst h3
  refine .inr fun hr p hp=>?_
  obtain⟨ob,h5,h6,h7⟩:=h4 hr p hp
  have cu:(({objs:=Tr.nil.set r ob,grps:=Tr.nil,next:=0,lo:=0}:Heap)).objs.get r=some ob:=by
   show((Tr.nil:Tr AObj).set r ob).get r=some ob
   exact Tr.mN (qz _ hr)
  have h8:=h7 _ cu
  unfold exOp at h8
  simp only[ho,hx,wo]at h8
  rw[we]at h8
  obtain⟨u',h9,aZ⟩:=h8
  simp only[wi,wk]at aZ
  rw[aZ.1]at h9
  have aC:∃ cells g tp,ob= .row cells g tp:=by
   have aY:=h9
   simp only[loadV,ptr,cu]at aY
   split at aY
   ·rename_i cells g tp ig
    simp only[wi]at ig
    exact⟨cells,g,tp,ig⟩
   ·simp at aY
  obtain⟨cells,g,tp,rfl⟩:=aC
  obtain⟨⟨C',e',bl,c1,c2,c3,c4,c5⟩,_⟩:=h5
  exact Gv h9 cu c1 c5
 ·rw[ho]at h1
  cases h1
  rw[hx,wi]at h2
  simp only[ptr,Value.pointer.injEq,wi,wcE,wcl]at h2
  obtain⟨rfl,rfl⟩:=h2
  exact .inr h3
theorem qx.TX{ty:TypeId}{u:Value}{m₁ m₂ m₃:Match}{p p':dO}{q q':Nat}{w w':World}(ck:∀ r p q,m₁ r=some p→m₂ r=some q→m₃ r=some q)(h1:qx E ty u m₁ p q w)(h2:qx E ty u m₂ p' q' w'):qx E ty u m₃ p' q' w':=by
 obtain⟨i,cs,iD,C,e,fr,a1,a2,a3,a4,a5,a6,a7⟩:=h1
 obtain⟨i',ds,Dn,D,e',bl,b1,b2,b3,b4,b5,b6,b7⟩:=h2
 rw[a1]at b1
 cases b1
 have TY:cs=ds:=by
  cases ha:i.agg with
  |true=>
   have h1:=a6 ha
   have h2:=b6 ha
   rw[h1]at h2
   simpa using h2
  |false=>
   have h1:=a7 ha
   have h2:=b7 ha
   rw[ha]at a3 b3
   match cs,ds,a3,b3 with
   |[x],[y],_,_=>simp at h1 h2;rw[h1,h2]
 subst TY
 exact⟨i,cs,Dn,D,e',bl,a1,b2,a3,a4.sub ck b4,b5,b6,b7⟩
theorem LH{T:Tr Value}{H':Heap}{ty:TypeId}{t d:Tmp}:∀ {ks:List (TypeId×Tmp×Tmp)},keepOk E T H' ks=true→(ty,t,d)∈ks→∃ a u,T.get t=some a∧T.get d=some u∧loadV E H' ty a=some u
 |[],_,h=>by simp at h
 |(Gw,t',d')::l,h,hm=>by
  simp only[keepOk,wA]at h
  rcases wad.1 hm with hm|hm
  ·cases hm
   have h1:=h.1
   split at h1
   ·rename_i a ha
    split at h1
    ·rename_i u hu
     split at h1
     ·rename_i u' Gx
      exact⟨a,u,ha,hu,by rw[Gx,TZ h1]⟩
     ·simp at h1
    ·simp at h1
   ·simp at h1
  ·exact LH h.2 hm
theorem AF{T T2:Tr Value}{o:Oper}{Hx oG:Heap}{u:Value}(he:∀ x∈o.op.operands.toList,ev T2 x=ev T x)(h:exOp E call T o Hx=some (u,oG)):exOp E call T2 o Hx=some (u,oG):=by
 rw[Ua he];exact h
theorem Inv.step(hS:Setup E call ops a9 size T H v wt)(hc:qp B lo0 E call)(hl0:lo0≤(H 0).lo)(I:Inv E call ops a9 size T H v wt B lo0 m w₀ a₀ S c M a w){i:Nat}{o:Oper}(ho:ops[i]? =some o)(hi:¬ S i)(hd:∀ j,dy ops i j→S j)
  {ro:Option Nat} {Q:Exit→Act→World→Prop}:
  wpOpIn (fg ro) 0 E.P ops Q i (fun a' w'=>∃ c' M',Inv E call ops a9 size T H v wt B lo0 m w₀ a₀ (fun j=>S j∨j=i) c' M' a' w') a w:=by
 obtain⟨T2,ht,mO,Ub⟩:=I.looks hS ho hi hd
 have hlt:=jF ho
 have vi:=hS.text.want i o (jE ho)
 rw[←Ub]at vi
 have Uc:=LI vi ht
 have vj:=hS.mono (waz hlt) (wy _)
 have oZ:=hS.mono (wJ i) (waz hlt)
 have h0:=hS.lo
 unfold wpOpIn
 simp only[ho,Uc]
 cases hw:wt i with
 |false=>
  simp only[wG,waa]
  exact⟨yh,_,_,I.skip hS ho hi hd hw⟩
 |true=>
  simp only[wah]
  obtain⟨bm,tW⟩:=hS.stat.info i o ho
  obtain⟨cK,H',h1,h2⟩:=hS.text.done i o bm (jE ho) tW hw
  have qz:∀ k,k<(H i).next→Maps.low k:=fun k hk=>Maps.rR hS.next (wK (waz hk) vj)
  have oI:¬ dP o→H (i+1)=H i→∀ Hx:Heap,Rel B lo0 (below M (H i).next) Hx w→(H i).next≤Hx.lo→Hx.lo=Hx.next→exOp E call (T i) o Hx=some (v i,Hx)→
    o.wpIn (fg ro) 0 E.P a w (fun a' w'=>∃ c' M',Inv E call ops a9 size T H v wt B lo0 m w₀ a₀ (fun j=>S j∨j=i) c' M' a' w') Q:=by
   intro aX dt Hx hR an LJ hx
   refine Dp hS.env hc hR ht (AF mO hx) fun v' w' m' hg hv=>⟨_,_,I.quiet hS ho hi hd aX an hl0 hg hv (fun r p hr=>?_) (by rw[dt];omega) (.inr (by rw[dt])) (fun r p x _ h3 h4=>by rw[dt]at h4;omega)⟩
   rcases hg.new r p hr with h|⟨_,h⟩
   ·exact .inl h
   ·have:=(hg.rel.dom r p hr).1;omega
  have LK:dP o→Rel B lo0 (below M (H i).next) {objs:=(H i).objs,grps:=(H i).grps,next:=(H i).next,lo:=bif bm.grow then(H i).next else(H i).lo} w∧(H 0).lo≤(bif bm.grow then(H i).next else(H i).lo)∧
    (∀l,l<i→¬ S l→¬ dy ops i l∧¬ dy ops l i)∧(∀(m':Match) (l:Nat),l<i→∀ r p,r<(H l).next→join M m' (H i).next (H (i+1)).next r=some p→M r=some p):=fun he=>by
   obtain⟨e1,e2,e3,e4⟩:=I.uZ hS ho hi hd he
   have Ud:∀ r p x,M r=some p→r<(H i).next→(H i).objs.get r=some x→∃ u,u≤(H i).next∧rT ops H S c u r x:=fun r p x hm hr hx=>by
    have:=I.trace hS (i-c) (by omega) (fun e p h1 h2 hp cU=>absurd cU (e4 e p h1 (by omega) hp)) r p x hm (by rw[show c+(i-c)=i by omega];exact hr) (by rw[show c+(i-c)=i by omega];exact hx)
    rwa [show c+(i-c)=i by omega]at this
   have yi:(H i).grps=(H c).grps:=by
    have:=I.grps hS (i-c) (by omega) (fun e p h1 h2 hp cU=>absurd cU (e4 e p h1 (by omega) hp))
    rwa [show c+(i-c)=i by omega]at this
   have ln:=hS.Au i (waz hlt)
   refine⟨I.rk.rel (by cases bm.grow<;>simp<;>omega) (by cases bm.grow<;>simp<;>omega) (wy _) Ud (fun g l h=>by rw[←yi];exact h),by cases bm.grow<;>simp<;>omega,fun l ke qn=>⟨fun h=>qn (hd l h),fun h=>by have:=h.lt hS.stat.rU;omega⟩,fun m' l ke r p hr hp=>?_⟩
   have:=hS.mono (waz ke) (waz hlt)
   unfold join at hp
   rw[wI (by omega)]at hp
   exact hp
  cases hk:kindOf o.op with
  |pure=>
   have aX:¬ dP o:=fun h=>by rcases h with h|h<;>rw[hk]at h<;>cases h
   exact oI aX (hS.still ho (.inr (.inl hk))) _ (Dk I.rk vj (by omega)) vj rfl ((Lr hk h1).2 _)
  |load=>
   have aX:¬ dP o:=fun h=>by rcases h with h|h<;>rw[hk]at h<;>cases h
   have dt:=hS.still ho (.inr (.inr hk))
   have Ue:lM E call lo0 (T i) (H i).next (v i) o M w:=by
    refine I.TE hS ho hk hi hw fun e p h3 h4 hp cU _=>?_
    have Uf:¬ S e:=fun h=>by have:=(I.fR e p hp cU).1 h;omega
    have rZ:¬ dy ops e i:=fun h=>by have:=h.lt hS.stat.rU;omega
    have vl:¬ dy ops i e:=fun h=>Uf (hd e h)
    obtain⟨gE,dU⟩:=hS.stat.info e p hp
    refine⟨gE,dU,?_⟩
    rcases cU with cU|cU
    ·have:=(hS.stat.LL e p i o gE hp ho cU hk dU rZ vl).1;omega
    ·rcases hS.stat.grow e p i o gE hp ho cU hk dU rZ vl with h|⟨h,_⟩|⟨_,h1,h2,h3,h4⟩
     ·exact .inl h
     ·omega
     ·exact .inr ⟨⟨h1,h2⟩,h3,h4⟩
   rcases Ue with h|⟨x,u,r,h3,h4,h5,h6⟩|⟨ty,x,r,q,h3,h4,h5⟩
   ·exact oI aX dt _ (Dk I.rk vj (by omega)) vj rfl (h _)
   ·have hu:=cE ht ((mO x (by simpa using Ug h3)).trans h4)
    obtain⟨p,hp⟩:=Lm hu h5
    obtain⟨hr,hp⟩:=dn.1 hp
    obtain⟨ob,h7,h8,h9⟩:=h6 hr p hp
    refine oI aX dt _ (Tv I.rk vj (by omega) hp h7 h8) vj rfl (h9 _ ?_)
    show((Tr.nil:Tr AObj).set r ob).get r=some ob
    exact Tr.mN (qz _ hr)
   ·have hu:=cE ht ((mO x (by rw[h3];simp[Op.operands])).trans h4)
    obtain⟨p,hp⟩:∃ p,below M (H i).next r=some p:=Lm hu rfl
    obtain⟨hr,Uh⟩:=dn.1 hp
    obtain⟨v',h6,h7⟩:=TS hS.env (h5 hr p Uh)
    have Gu:a.eval x= .pointer (some ⟨p.ax,p.base+q,none⟩):=by
     generalize a.eval x=z at hu
     cases hu with
     |ptr h8=>rw[hp]at h8;cases h8;rfl
    have hR:Rel B lo0 (below M (H i).next) {objs:=Tr.nil,grps:=Tr.nil,next:=(H i).next,lo:=(H i).next} w:=Dk I.rk (wy _) (by omega)
    have Gy:UpTo E.P (fun rD fD=>rD=v'∧fD=w) ((execOp a.eval o).run E.P w):=by
     have:(execOp a.eval o).run E.P w= .ok (.value v') w:=by
      simp only[execOp,h3,Gu,wB,h6,wu,wC]
     rw[this];exact⟨rfl,rfl⟩
    refine⟨yh,?_⟩
    rw[Oper.semAt_eq _ _ _ (GA h1)]
    refine UpTo.uponIn Gy fun rD fD ⟨dq,qA⟩=>?_
    subst dq qA
    exact⟨_,_,I.quiet hS ho hi hd aX (wy _) hl0 (.refl hR) h7 (fun r p hr=> .inl hr) (by rw[dt];omega) (.inr (by rw[dt])) (fun r p x _ h3 h4=>by rw[dt]at h4;omega)⟩
  |alloc=>
   have aX:¬ dP o:=fun h=>by rcases h with h|h<;>rw[hk]at h<;>cases h
   obtain⟨ob,h3,h4,_,h6,h7⟩:=hS.alloc ho hk hw
   have hR:Rel B lo0 (below M (H i).next) {objs:=Tr.nil,grps:=Tr.nil,next:=(H i).next,lo:=(H i).next} w:=Dk I.rk (wy _) (by omega)
   refine Dp hS.env hc hR ht (AF mO (h7 _ rfl)) fun v' w' m' hg hv=>⟨_,_,I.quiet hS ho hi hd aX (wy _) hl0 hg hv (fun r p hr=>?_) (by omega) (.inl hk) (fun r p x hr h8 h9 hx=>?_)⟩
   ·rcases hg.new r p hr with h|⟨_,h⟩
    ·exact .inl h
    ·have:=(hg.rel.dom r p hr).1
     rw[iR]at this
     have h:(H i).next≤r:=h
     have this:r<(H i).next+1:=this
     exact .inr ⟨h,by omega⟩
   ·rcases h6 r x hx with⟨rfl,rfl⟩|⟨aZ,_⟩
    ·refine⟨h3,hg.rel.obj _ p x hr ?_⟩
     simp only[Heap.add,eU,Tr.force_eq]
     exact Tr.mN (Maps.rR hS.next (by have h1:=hS.mono (i:=i+1) (j:=ops.size) hlt (wy _);omega))
    ·omega
  |call=>
   obtain⟨hR,an,tX,AG⟩:=LK (.inr hk)
   refine Dp hS.env hc hR ht (AF mO h1) fun v' w' m' hg hv=>⟨_,_,I.effect hS ho hi hd (.inr hk) an (by rfl) h2 hg hv fun l ol fN mP ke qn fS tY=>?_⟩
   obtain⟨f1,f2⟩:=tX l ke qn
   have LJ:=hS.mono (waz ke) (waz hlt)
   have nN:=I.join_le hS hi hlt m'
   rcases hS.stat.grow i o l ol bm ho fN hk mP tW f1 f2 with xR|⟨_,vm,lt,ld,g1,g2,g3,g4,g5⟩|⟨Gl,_⟩
   rotate_left
   ·
    obtain⟨av,u,k1,k2,k3⟩:=LH (hS.text.kept i o bm (jE ho) tW hw) g3
    have t1:(T i).get lt=(T l).get lt:=hS.same (hS.tP i (waz hlt) lt av k1) (waz ke) (waz hlt) fun j q h1 _ hq=>g4 j q h1 hq
    have t2:(T i).get ld=(T (l+1)).get ld:=hS.same (hS.tP i (waz hlt) ld u k2) ke (waz hlt) fun j q h1 _ hq=>g5 j q h1 hq
    rw[t2]at k2
    have hu:=hS.Lq fN g2 k2
    subst hu
    have aC:∃ r q cells g tp,av=ptr r q∧(H (i+1)).objs.get r=some (.row cells g tp):=by
     have k4:=k3
     unfold loadV at k4
     split at k4
     ·rename_i r q
      split at k4
      ·rename_i cells g tp ig
       exact⟨r,q,cells,g,tp,rfl,ig⟩
      ·simp at k4
     ·simp at k4
    obtain⟨r,q,cells,g,tp,rfl,iF⟩:=aC
    have LM:ev (T l) (.tmp lt)=some (ptr r q):=t1.symm.trans k1
    rcases tY.cells g1 LM (fun k hk=>Maps.rR hS.next (by omega))with h|qB
    ·exact .inl h
    refine .inr (.inr ⟨vm,.tmp lt,r,q,g1,LM,fun hr p hp=>?_⟩)
    have LN:=AG m' l ke r p hr hp
    have Ui:m' r=some p:=hg.le r p (dn.2 ⟨by omega,LN⟩)
    have Uj:H'.objs.get r=some (.row cells g tp):=by rw[h2]at iF;exact iF
    obtain⟨⟨C,e,fr,c1,c2,c3,c4,c5⟩,_⟩:=hg.rel.obj r p _ Ui Uj
    refine(qB hr p LN).TX (fun r₁ p₁ q₁ h1 h2=>?_) (Gv k3 iF c1 c5)
    obtain⟨h3,h4⟩:=dn.1 h1
    refine dn.2 ⟨h3,?_⟩
    have h5:=hg.le r₁ p₁ (dn.2 ⟨by omega,h4⟩)
    rw[h2]at h5
    cases h5
    exact nN r₁ p₁ h4
   ·omega
   refine tY.mono (I.join_le hS hi hlt m') (AG m' l ke) fun r p _ hp=>hg.frame _ (I.rk.dom r p hp).1 fun r₁ p₁ Gs LO=>?_
   have:=(dn.1 Gs).1
   rw[xR]at LO
   simp only[wai]at LO
   omega
  |store=>
   obtain⟨hR,an,tX,AG⟩:=LK (.inl hk)
   obtain⟨ty,x,y,bW⟩:∃ ty x y,o.op= .store ty x y:=by
    cases bW:o.op<;>rw[bW]at hk<;>simp only[kindOf,reduceCtorEq]at hk
    case convert s d x=>cases hb:Nat.beq s BT<;>rw[hb]at hk<;>cases hk
    ·exact⟨_,_,_,rfl⟩
    ·rename_i cc
     cases xT:cc.callee with
     |builtin b=>rw[xT]at hk;cases b<;>cases hk
     |_=>rw[xT]at hk;cases hk
   have Uk:=hS.stat.store i o bm ho hk tW
   obtain⟨r,k,n,p,C,e,fr,new,cC,g1,g2,g3,g4,g5,g6,⟨cells,gp,g7,g8,g9⟩,LP⟩:=TQ hS.env hR ht bW (AF mO h1)
   have LQ:=LR hS.env hc hR ht (AF mO h1)
   rw[iB,LP]at LQ
   obtain⟨m',hg,hv⟩:=LQ
   have Gy:UpTo E.P (fun v' w'=>v'=undef∧w'=dI w p.ax (.cells (lj C (p.base+k) cC) e fr)) ((execOp a.eval o).run E.P w):=by rw[LP];exact⟨rfl,rfl⟩
   refine⟨yh,?_⟩
   rw[Oper.semAt_eq _ _ _ (GA h1)]
   refine UpTo.uponIn Gy fun v' w' ⟨dq,qA⟩=>?_
   subst dq qA
   refine⟨_,_,I.effect hS ho hi hd (.inl hk) an (by rfl) h2 hg hv fun l ol fN mP ke qn fS tY=>?_⟩
   obtain⟨f1,f2⟩:=tX l ke qn
   obtain⟨_,f4,lt,f5,f6⟩:=hS.stat.LL i o l ol bm ho fN hk mP tW f1 f2
   obtain⟨g3r,LS⟩:=dn.1 g3
   have nN:=I.join_le hS hi hlt m'
   have LJ:=hS.mono (waz ke) (waz hlt)
   have LU:p.ax<w.heap.size:=(I.rk.dom r p LS).1
   suffices mQ:∀ r' o' n' p',footOf E (T l) ol.op=some (r',o',n')→M r'=some p'→r'<(H l).next→p'.ax=p.ax→p'=p∧(k+cC.length≤o'∨o'+n'≤k) by
    rcases f5 with⟨vm,f5⟩|⟨vm,LV,LW,LX,f5⟩
    ·exact TT tY f5 (fun k hk=>Maps.rR hS.next (by omega)) nN (AG m' l ke) g4 (fun b hb=>uK _ hb) (nG _ LU) (by rw[←g6.1];omega) mQ
    ·exact TV tY f5 (fun k hk=>Maps.rR hS.next (by omega)) nN (AG m' l ke) g4 (fun b hb=>uK _ hb) (nG _ LU) (by rw[←g6.1];omega) fun r' o' n' p' hf eC cp gT=>(mQ r' o' n' p' hf eC cp gT).1
   intro r' o' n' p' hf eC cp gT
   have dQ:footOf E (T i) ol.op=some (r',o',n'):=by
    have:ev (T i) (.tmp lt)=ev (T l) (.tmp lt):=by
     have mO:∃ u,ev (T l) (.tmp lt)=some u:=by
      rcases f5 with⟨vm,f5⟩|⟨vm,LV,LW,LX,f5⟩<;>(rw[f5]at hf;simp only[footOf,we]at hf;obtain⟨u,hu,_⟩:=hf;exact⟨u,hu⟩)
     obtain⟨u,hu⟩:=mO
     have jd:=hS.tP l (by omega) lt u hu
     exact hS.same jd (waz ke) (waz hlt) fun j q h1 _ hq=>f6 j q h1 hq
    rcases f5 with⟨vm,f5⟩|⟨vm,LV,LW,LX,f5⟩<;>(rw[f5]at hf ⊢;simp only[footOf,this]at hf ⊢;exact hf)
   have AH:footOf E (T i) o.op=some (r,k,n):=by
    have vh:ev T2 x=ev (T i) x:=mO x (by rw[bW];simp[Op.operands])
    rw[bW]at g1⊢
    simp only[footOf,vh]at g1⊢
    exact g1
   have GB:(match(H i).objs.get r with|some (.row _ none _)=>apartFrom E (T i) (H i) r k n bm.apart|_=>false)=true:=by
    unfold storeApart at cK
    split at cK
    ·rename_i ig;rw[ig]at f4;cases f4
    ·rw[show appOf o.op=none by rw[bW];rfl,AH]at cK;exact cK
   split at GB
   ·rename_i cs tp aC
    rcases LG GB ol.op f4 r' o' n' dQ with⟨h3,h4⟩|⟨h3,h4⟩
    ·subst h3
     rw[LS]at eC;cases eC
     exact⟨rfl,by rw[←g6.1,g5];exact h4⟩
    ·exfalso
     obtain⟨x2,oJ⟩:=wci.1 h4
     have yj:lo0≤r:=by
      rw[Uk]at g2
      simp only[wS]at g2
      have:=(hS.Au i (waz hlt)).1
      omega
     have:=hR.sep r r' p p' _ x2 h3 yj g3 (dn.2 ⟨by omega,eC⟩) aC oJ gT.symm
     exact this
   ·cases GB
end Go.AM
namespace Go.AM
section
variable[Maps]{B lo0:Nat}{E:Env}
variable{call:cT}{ops:Array Oper}{a9:List Info}{size:Nat}{T:Nat→Tr Value}{H:Nat→Heap}{v:Nat→Value}{wt:Nat→Bool}
variable{m:Match}{w₀:World}{a₀:Act}
def nO(N:Nat)(cl:Array Bool)(j:Nat):Prop:=j<N∧cl.getD j true=true
end
section
variable{B lo0:Nat}{m:Match}{w:World}{P:Program}
theorem nO.set{N:Nat}{cl:Array Bool}(hs:cl.size=N){i:Nat}(hi:i<N):(fun j=>nO N cl j∨j=i)=nO N (cl.setIfInBounds i true):=by
 funext j
 apply propext
 unfold nO
 by_cases hj:j=i
 ·subst hj
  simp[hi,wax,hs]
 ·have:(cl.setIfInBounds i true).getD j true=cl.getD j true:=by
   rw[wax,wax,wa8 (wbl hj)]
  rw[this]
  simp[hj]
theorem Ul{md:Region.Mode}{e:Edge}(h:Region.binds .any e=true):Region.binds md e=true:=by
 unfold Region.binds at*
 split at h<;>simp_all
theorem count_set:∀ (l:List Bool) (i:Nat),l[i]? =some false→(l.set i true).count false+1=l.count false
 |[],i,h=>by simp at h
 |b::l,0,h=>by
  simp only[wQ,wi]at h
  subst h
  simp
 |b::l,i+1,h=>by
  have:=count_set l i (by simpa using h)
  simp only[List.set_cons_succ,List.count_cons]
  omega
end
section
variable[Maps]{B lo0:Nat}{E:Env}
variable{call:cT}{ops:Array Oper}{a9:List Info}{size:Nat}{T:Nat→Tr Value}{H:Nat→Heap}{v:Nat→Value}{wt:Nat→Bool}
variable{m:Match}{w₀:World}{a₀:Act}
theorem Um(hS:Setup E call ops a9 size T H v wt)(hc:qp B lo0 E call)(hl0:lo0≤(H 0).lo){ro:Option Nat}{Q:Exit→Act→World→Prop}{md:Region.Mode}
  (cF:∀ cl:Array Bool,Region.ready md ops cl=[]→cl.size=ops.size→∀ i,i<ops.size→cl.getD i true=true)
  (hq:∀ c M a w,Inv E call ops a9 size T H v wt B lo0 m w₀ a₀ (fun j=>j<ops.size) c M a w→Q .normal a w):∀ (dT:Nat) (cl:Array Bool),cl.size=ops.size→cl.toList.count false≤dT→∀ c M a w,
  Inv E call ops a9 size T H v wt B lo0 m w₀ a₀ (nO ops.size cl) c M a w→wpAnyIn (fg ro) 0 E.P md ops Q dT cl a w:=by
 have jy:∀ (cl:Array Bool),cl.size=ops.size→Region.ready md ops cl=[]→∀ c M a w,Inv E call ops a9 size T H v wt B lo0 m w₀ a₀ (nO ops.size cl) c M a w→Q .normal a w:=fun cl hs hr c M a w I=>by
  have:nO ops.size cl=fun j=>j<ops.size:=by
   funext j
   apply propext
   exact⟨fun h=>h.1,fun h=>⟨h,cF cl hr hs j h⟩⟩
  rw[this]at I
  exact hq c M a w I
 intro dT
 induction dT with
 |zero=>
  intro cl hs hn c M a w I
  have hr:Region.ready md ops cl=[]:=by
   apply List.eq_nil_iff_forall_not_mem.2
   intro j hj
   have h1:=(mem_ready.1 hj).1
   have h2:false∈cl.toList:=by
    rw[wax]at h1
    cases h3:cl[j]? with
    |none=>rw[h3]at h1;simp at h1
    |some b=>rw[h3]at h1;simp at h1;subst h1;exact wag (by rw[wao];exact h3)
   have:=List.count_pos_iff.2 h2
   omega
  exact⟨hr,jy cl hs hr c M a w I⟩
 |succ dT ih=>
  intro cl hs hn c M a w I
  refine⟨fun hr=>jy cl hs hr c M a w I,fun i hi=>?_⟩
  obtain⟨h1,o,ho,h2⟩:=mem_ready.1 hi
  have hlt:=jF ho
  have oK:¬ nO ops.size cl i:=fun h=>by rw[h.2]at h1;cases h1
  have hd:∀ j,dy ops i j→nO ops.size cl j:=fun j hj=>by
   obtain⟨o',bJ,e,h3,h4,h5⟩:=hj.inv
   rw[ho]at bJ;cases bJ
   have h3:e∈o.after:=by simpa using h3
   have h6:=h2 e h3 (Ul h4)
   have h7:e.on<ops.size:=by
    rcases hS.stat.rU i o e ho h3 with h|h
    ·omega
    ·exact h.2
   have h8:nO ops.size cl e.on:=⟨h7,by
    have lN:e.on<cl.size:=by rw[hs];exact h7
    rw[wax,wa0 lN]at h6⊢
    simpa using h6⟩
   rcases h5 with h5|h5
   ·rw[←h5];exact h8
   ·exact I.closed e.on j h8 h5
  refine wpOpIn_mono (fun a' w' ⟨c',M',I'⟩=>?_) (I.step hS hc hl0 ho oK hd (ro:=ro) (Q:=Q))
  rw[nO.set hs hlt]at I'
  refine ih _ (by simpa using hs) ?_ c' M' a' w' I'
  have h3:cl.toList[i]? =some false:=by
   have lN:i<cl.size:=by rw[hs];exact hlt
   rw[wax,wa0 lN]at h1
   rw[wao,wa0 lN]
   simpa using h1
  have:=count_set cl.toList i h3
  rw[Array.toList_setIfInBounds]
  omega
end
section
variable{B lo0:Nat}{m:Match}{w:World}{P:Program}
theorem Un{M:Match}{n:Nat}(h:∀ r p,M r=some p→r<n):below M n=M:=by
 funext r
 unfold below
 split
 ·rfl
 ·rename_i hn
  cases hm:M r with
  |none=>rfl
  |some p=>exact absurd (h r p hm) hn
end
section
variable[Maps]{B lo0:Nat}{E:Env}
variable{call:cT}{ops:Array Oper}{a9:List Info}{size:Nat}{T:Nat→Tr Value}{H:Nat→Heap}{v:Nat→Value}{wt:Nat→Bool}
variable{m:Match}{w₀:World}{a₀:Act}
theorem Inv.start(hS:Setup E call ops a9 size T H v wt){w:World}{a:Act}(hR:Rel B lo0 m (H 0) w)(ht:fk m (T 0) a.tmps)(hs:a.tmps.size=size):
  Inv E call ops a9 size T H v wt B lo0 m w a (nO ops.size (Array.replicate ops.size false)) 0 m a w:=by
 have eA:∀ j,¬nO ops.size (Array.replicate ops.size false) j:=fun j h=>by
  have h1:=h.2
  rw[wax,Array.getElem?_replicate,wF h.1]at h1
  simp at h1
 refine⟨fun j h=>absurd h (eA j),fun i j h=>absurd h (eA i),wJ _,fun e o _ _=>⟨fun h=>absurd h (eA e),fun h=>by omega⟩,fun j o _ _ h=>by omega,?_,?_,fun j r p _ h=>absurd h (eA j),fun l o _ _ h=>by omega,hs,fun t k hk hw u hu=>?_,fun t _=>rfl,rfl⟩
 ·exact⟨m.le_refl,fun r p hr=> .inl ⟨hr,(hR.dom r p hr).1⟩,fun r p hr hn=>(by rw[hr]at hn;cases hn),fun b _ _=>rfl,wy _,rfl,rfl⟩
 ·refine(jD.LF hR).Gm (fun u r p o hm hk=>?_) (fun g l h=>h)
  rcases hk with⟨rfl,h1,h2⟩|⟨j,_,_,h3,_⟩
  ·exact⟨_,wy _,rfl,h2⟩
  ·exact absurd h3 (eA j)
 ·have jI:=hS.tP k hk t u hu
  rw[hS.same jI (wJ k) hk fun j o _ h1 ho hd=>eA j ((hw j o ho hd).2 h1)]at hu
  obtain⟨u',h1,h2⟩:=ht t u hu
  refine⟨u',h1,h2.mono fun r p hr=>dn.2 ⟨wq (hR.dom r p hr).1 (hS.mono (wJ k) hk),hr⟩⟩
theorem Setup.LY(hS:Setup E call ops a9 size T H v wt):∀ i,i≤ops.size→dv (H 0) (H i)
 |0,_=> .refl _
 |i+1,h=>by
  obtain⟨o,ho⟩:=tO (ops:=ops) (i:=i) (by omega)
  exact(hS.LY i (by omega)).trans (hS.x9 ho)
theorem Inv.finish(hS:Setup E call ops a9 size T H v wt){c:Nat}{M:Match}{a:Act}{w:World}(an:lo0≤(H 0).lo)(I:Inv E call ops a9 size T H v wt B lo0 m w₀ a₀ (fun j=>j<ops.size) c M a w):
  Good B lo0 m (H 0) w₀ M (H ops.size) w∧fk M (T ops.size) a.tmps:=by
 have hlt:∀ r p,M r=some p→r<(H ops.size).next:=fun r p hr=>by
  rcases I.out.dom r p hr with⟨_,h⟩|⟨_,j,h1,h2,h3⟩
  ·exact wq h (hS.mono (wJ _) (wy _))
  ·exact wq h3 (hS.mono h1 (wy _))
 have ln:=hS.Au ops.size (wy _)
 have eA:∀ (e:Nat) (p:Oper),c≤e→ops[e]? =some p→¬ dP p:=fun e p h1 hp cU=>by
  have:=(I.fR e p hp cU).1 (jF hp)
  omega
 have hR:Rel B lo0 (below M (H ops.size).next) (H ops.size) w:=by
  refine I.rk.rel (by omega) ln.2.1 (wy _) (fun r p x hm hr hx=>?_) (fun g l hl=>?_)
  ·have:=I.trace hS (ops.size-c) (by have:=I.cN;omega) (fun e p h1 h2 hp cU=>absurd cU (eA e p h1 hp)) r p x hm (by rw[show c+(ops.size-c)=ops.size by have:=I.cN;omega];exact hr) (by rw[show c+(ops.size-c)=ops.size by have:=I.cN;omega];exact hx)
   rwa [show c+(ops.size-c)=ops.size by have:=I.cN;omega]at this
  ·have:=I.grps hS (ops.size-c) (by have:=I.cN;omega) (fun e p h1 h2 hp cU=>absurd cU (eA e p h1 hp))
   rw[show c+(ops.size-c)=ops.size by have:=I.cN;omega]at this
   rwa [this]at hl
 rw[Un hlt]at hR
 have tZ:=hS.LY ops.size (wy _)
 refine⟨⟨I.out.le,hR,fun r p hr=>?_,I.out.ax,ln.2.2,ln.1,I.out.frame,I.out.size,tZ.low,I.out.os⟩,fun t u hu=>?_⟩
 ·rcases I.out.dom r p hr with⟨h,_⟩|⟨h0,j,h1,h2,_⟩
  ·exact .inl h
  ·exact .inr ⟨h0,wK (hS.mono (wJ j) (waz h1)) h2⟩
 ·obtain⟨u',h1,h2⟩:=I.tmps t ops.size (wy _) (fun j o ho _=>⟨fun h=>h,fun h=>h⟩) u hu
  exact⟨u',h1,h2.mono (Uo _ _)⟩
theorem Up(hE:EnvOk E){call:cT}(hc:∀ B lo0,qp B lo0 E call)(qB:nK call){id:Nat}{ops:Array Oper}{fr:Fr}{m:Match}{H:Heap}{w:World}{T':Tr Value}{H':Heap}{a:Act}{ro:Option Nat}(hR:Rel B lo0 m H w)(hf:gB m fr a ro)
  (h:rO E call ops fr.size fr.T H=some (T',H')):
  (Code.region id ops true).wpIn (fg ro) 0 E.P (fU B lo0 m H w (.region id ops true) a ro .normal {T:=T',size:=fr.size,marks:=fr.marks,round:=fr.round} H') a w:=by
 unfold rO at h
 obtain⟨h1,h⟩:=cD h
 simp only[we]at h
 obtain⟨a9,h2,r,h3,h4⟩:=h
 obtain⟨h5,h6⟩:=cn h4
 simp only[wi]at h6
 subst h6
 obtain⟨dt,Uq⟩:=Ur h2
 obtain⟨Tf,Hf,vf,wf,e1,e2,e3,e4,e5⟩:=GC h3
 simp only[waF]at e3 e4
 have hS:Setup E call ops a9 fr.size Tf Hf vf wf:={
  env:=hE,low:=qB,stat:=dt,text:=e5,lo:=by rw[e2];exact hR.ag,
  tm:=fun t u hu=>by
   rw[e1]at hu
   obtain⟨u',h7,_⟩:=hf.tmps t u hu
   rw[←hf.size]
   exact(w0.1 h7).1
  size:=by
   simp only[waM]at h1
   exact h1
  next:=by rw[e4];exact h5}
 have LZ:Good B lo0 m H w m H {w with drawn:=w.drawn+1}:=Good.same hR rfl ⟨rfl,rfl⟩
 have GD:Rel B lo0 m (Hf 0) {w with drawn:=w.drawn+1}:=by rw[e2];exact LZ.rel
 have I0:=Inv.start hS GD (by rw[e1];exact hf.tmps) hf.size
 have hl0:lo0≤(Hf 0).lo:=by rw[e2];exact hR.lo
 have Us:(Array.replicate ops.size false).toList.count false≤ops.size:=by simp
 have GF:∀ c M a' w',Inv E call ops a9 fr.size Tf Hf vf wf B lo0 m {w with drawn:=w.drawn+1} a (fun j=>j<ops.size) c M a' w'→
   fU B lo0 m H w (.region id ops true) a ro .normal {T:=T',size:=fr.size,marks:=fr.marks,round:=fr.round} H' .normal a' w':=fun c M a' w' I=>by
  obtain⟨h7,h8⟩:=I.finish hS hl0
  rw[e2,e4]at h7
  rw[e3]at h8
  have hg:=LZ.trans h7
  refine⟨rfl,M,hg,⟨h8,I.Ax,by rw[I.defers];exact hf.marks.mono hg.le,hf.round⟩,fun t ht=>I.cJ t fun j o ho hd=>ht ?_⟩
  simp only[writesOf,wcz]
  exact⟨o,wag (jE ho),hd⟩
 have Ad:∀ (md:Region.Mode),(∀cl:Array Bool,Region.ready md ops cl=[]→cl.size=ops.size→∀ i,i<ops.size→cl.getD i true=true)→∀ t,
   wpOpsIn (fg ro) 0 E.P ops (fU B lo0 m H w (.region id ops true) a ro .normal {T:=T',size:=fr.size,marks:=fr.marks,round:=fr.round} H') (Region.linearise md ops t) a {w with drawn:=w.drawn+1}:=fun md cF t=>
  wpAnyIn_sound ops.size t _ a _ (Um hS (hc B lo0) hl0 cF GF ops.size _ (by simp) Us 0 m a _ I0)
 have L0:∀ (md:Region.Mode),(md= .any∨md= .text)→∀ (i:Nat) (o:Oper) (e:Edge),ops[i]? =some o→e∈o.after→Region.binds md e=true→e.on<ops.size∧e.on<i:=fun md Ut i o e ho he hb=>by
  rcases dt.rU i o e ho he with h|⟨⟨rr,h⟩,_⟩
  ·have:=jF ho
   exact⟨by omega,h⟩
  ·rcases Ut with rfl|rfl<;>simp[Region.binds,h]at hb
 refine wpIn_region_draw fun t=>?_
 unfold Region.schedule
 split
 ·exact Ad .any (fun cl hr hs=>L2 (fun i=>i) (L0 .any (.inl rfl)) hr hs) t
 ·split
  ·exact Ad .text (fun cl hr hs=>L2 (fun i=>i) (L0 .text (.inr rfl)) hr hs) _
  ·exact Ad .gc (fun cl hr hs=>L3 hr hs 20 0 Uq fun j hj=>by simp at hj) _
end
end Go.AM
