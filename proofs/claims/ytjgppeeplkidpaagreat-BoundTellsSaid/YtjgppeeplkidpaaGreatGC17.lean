/-
  Walks over letters of the functions that the law reaches; written small by a program of mine.
-/
import Derived.Test.YtjgppeeplkidpaaGreatGC13
import Derived.Test.YtjgppeeplkidpaaGreatGK5
set_option linter.unusedVariables false
set_option linter.unusedSectionVars false
namespace Go.AM
attribute [local instance] fnMaps
open Go Go.Proofs
set_option maxRecDepth 100000
set_option maxHeartbeats 1000000
set_option linter.unusedSimpArgs false
def fB(s:St)(x:Span):Bool:=decide (cF s.words x.ae=0)&&decide (cu (aT s.words x.ae)=x.size)&&qS (aT s.words x.ae)&& !decide (s.cfg.Small x.size)
def ig(s:St):Bool:=jQ s.cfg.jr s.table s.free&&s.table.all (fB s)
theorem aZ.ko{α:Type}{R:Heap→List Value→α→Prop}(hR:oM R){z:Nat}{H X:Heap}{v:Value}{l:List α}(h:aZ R z H v l)(k:Ko H X):aZ R z X v l:=
 ⟨h.1.ext hR k.ext,fun a n c ee=>(h.2 a n c ee).elim .inl fun⟨r,cells,g,t,h1,h2,h3⟩=> .inr ⟨r,cells,g,t,h1,wq h2 k.ag,(k.objs r h2).trans h3⟩⟩
def AT(ks:List Int)(x:Span):List Int:=oP ks x.ae
theorem zaK(H:Heap)(aj:H.lo≤H.next){lp a rw m:Nat}{s:St}{w t f zl dT:Value}{dM ks:List Int}(hk:Lk H lp s w t f zl a rw m dT dM ks)(hl:lp<H.next)(hS:iQ H s w t f zl)(zib:H.lo≤m)(lj:s.table.length≤100000):af E (aC 198) [ptr lp 0] H fun r H'=>r= .bool (ig s)∧eK m H H'∧H'.lo=H.lo∧(ig s=true→H'.objs.get m=some (.map (fY (s.table.foldl AT ks)))):=by
 have aG:=hk.row
 have hA:=hk.ar
 have hm:=hk.map
 have sy:=hk.lm
 have qE:=hS.t
 have cQ:=hS.f
 have la:=hA.la;have lw:=hA.lw
 have HI:lp≠m:=fun e=>by rw[e,hm]at aG;cases aG
 have HJ:a≠m:=fun e=>by have:=hA.box;rw[e,hm]at this;cases this
 have HK:rw≠m:=fun e=>by have:=hA.row;rw[e,hm]at this;cases this
 unfold gB at aG
 refine aQ Tryz.f198 ?_
 simp only[Tryz.f198]
 cases hR:jQ s.cfg.jr s.table s.free with
 |false=>
  have hn:ig s=false:=by unfold ig;rw[hR];rfl
  repeat'(first|refine az 1 [Fx,Fx,Fx,Fx,Fx,Tx,Fx,Fx,Fx,Fx,Fx,Fx,Fx,Fx,Fx,Fx,Fx,Fx] ?_|((with_reducible show af _ _ _ _ _);(first|refine ak H (Oq _ ah s.cfg) ?_|refine ak H (OK _ ah s.cfg.jr _ f s.table s.free (qE.ko bD.mono aw) (cQ.ko bD.mono aw) lj) ?_);intro H2 k2 l2 n2 g2 q2;try simp(disch:=omega)only[sm,sl]at l2 n2 g2 q2)|simp(disch:=omega)only[↓aa,ab,simprocAttr,sa, *])
  exact⟨Ko.ju aw m,False.elim⟩
 |true=>
  have uy:fI s.cfg.jr none s.table=true:=by unfold jQ at hR;rw[wA]at hR;exact hR.1
  obtain⟨cn, -, -⟩:=uv uy
  have hT:ig s=s.table.all (fB s):=by unfold ig;rw[hR];rfl
  have HL:=qE
  obtain⟨⟨ta,tc,rfl,⟨_,Cw⟩,zaL⟩, -⟩:=HL
  repeat'(first|refine az 1 [Fx,Fx,Fx,Fx,Fx,Tx,Fx,Fx,Fx,Fx,Fx,Fx,Fx,Fx,Fx,Fx,Fx,Fx] ?_|((with_reducible show af _ _ _ _ _);(first|refine ak H (Oq _ ah s.cfg) ?_|refine ak H (OK _ ah s.cfg.jr _ f s.table s.free (qE.ko bD.mono aw) (cQ.ko bD.mono aw) lj) ?_);intro H2 k2 l2 n2 g2 q2;try simp(disch:=omega)only[sm,sl]at l2 n2 g2 q2)|simp(disch:=omega)only[↓aa,ab,simprocAttr,sa, *])
  refine zA (fun T1 H1 eT eH=>?_)
  have k1:Ko H H1:=by rw[eH];exact aw
  have l1:H1.lo=H.lo:=by rw[eH];simp(disch:=omega)only[↓aa,ab,simprocAttr,sa, *]
  have t29:T1.get 29=some (.slice ta s.table.length tc):=by rw[eT];simp(disch:=omega)only[↓aa,ab,simprocAttr]
  have t30:T1.get 30=some (.int .i64 s.table.length):=by rw[eT];simp(disch:=omega)only[↓aa,ab,simprocAttr]
  have t31:T1.get 31=some (.int .i64 0):=by rw[eT];simp(disch:=omega)only[↓aa,ab,simprocAttr]
  have t0:T1.get 0=some (ptr lp 0):=by rw[eT];simp(disch:=omega)only[↓aa,ab,simprocAttr]
  clear eT eH
  refine bt kq (fun nn T X=>∃ i:Nat,nn=s.table.length-i∧i≤s.table.length∧T.get 31=some (.int .i64 i)∧T.get 29=some (.slice ta s.table.length tc)∧T.get 30=some (.int .i64 s.table.length)∧T.get 0=some (ptr lp 0)∧
   X.objs.get m=some (.map (fY ((s.table.take i).foldl AT ks)))∧eK m H X∧X.lo=H.lo∧s.table.all (fB s)=(s.table.drop i).all (fB s)) ⟨_,0,rfl,wJ _,t31,t29,t30,t0,(k1.objs m sy).trans hm,k1.ju m,l1,rfl⟩ ?_
  rintro nn T X ⟨i,rfl,hi,u31,OR,u30,u0,mX,bX,lX,hE⟩ Qs hQ aD ai
  have nX:=bX.ag
  have rX:=(bX.objs lp hl HI).trans aG
  have AX:=hA.ju bX HJ HK
  have lmX:m<X.next:=by omega
  have kU:lp<X.next:=by omega
  by_cases hlt:i<s.table.length
  ·obtain⟨r,o,cells,gg,tt,part,rfl,hr,iL,a8,rfl⟩:=zaL i s.table[i] (by simp)
   have GF:r≠m:=fun e=>by rw[e,hm]at iL;cases iL
   have e1:=(bX.objs r hr GF).trans iL
   have lr:r<X.next:=by omega
   have a1:=bI hlt
   have hx:=cn s.table[i] (by simp)
   have cI:=hx.1
   unfold bw at cI
   have jU: -9223372036854775808≤s.table[i].ae∧s.table[i].ae≤9223372036854775807:=by omega
   rw[wX hlt,wbu]at hE
   cases hh:decide (cF s.words s.table[i].ae=0)with
   |false=>
    have hn:s.table.all (fB s)=false:=by rw[hE,fB,hh];rfl
    clear hE
    simp only[wal]at hh
    repeat'(first|(apply ao<;>intro)|refine az 6 [Fx,Fx,Fx,Fx,Fx,Fx,Fx,Fx,Fx,Fx,Fx,Fx,Fx] ?_|refine az 7 [Fx,Fx,Fx,Fx,Tx,Fx,Fx,Fx,Fx,Fx,Fx,Fx,Fx,Fx,Fx,Fx,Fx,Fx,Fx,Fx,Fx,Fx,Fx,Fx] ?_|((with_reducible show af _ _ _ _ _);refine ak X (oN _ ah (AX.same aw) s.table[i].ae jU) ?_;intro H2 k2 l2 n2 g2 q2;try simp(disch:=omega)only[sm,sl]at l2 n2 g2 q2)|((with_reducible show Qs _ _ _ _ _);first|refine ai _ _ _ _ ?_|refine aD _ _ _ ?_)|simp(disch:=omega)only[↓aa,ab,simprocAttr,sa,bK, *])
    all_goals try contradiction
    all_goals try omega
    exact⟨bX.ko aw,False.elim⟩
   |true=>
    have hz:cF s.words s.table[i].ae=0:=wap hh
    cases bh:decide (cu (aT s.words s.table[i].ae)=s.table[i].size)with
    |false=>
     have hn:s.table.all (fB s)=false:=by rw[hE,fB,hh,bh];rfl
     clear hE
     repeat'(first|(apply ao<;>intro)|refine az 6 [Fx,Fx,Fx,Fx,Fx,Fx,Fx,Fx,Fx,Fx,Fx,Fx,Fx] ?_|refine az 7 [Fx,Fx,Fx,Fx,Tx,Fx,Fx,Fx,Fx,Fx,Fx,Fx,Fx,Fx,Fx,Fx,Fx,Fx,Fx,Fx,Fx,Fx,Fx,Fx] ?_|((with_reducible show af _ _ _ _ _);(first|refine ak X (oN _ ah (AX.same aw) s.table[i].ae jU) ?_|refine ak X (qO _ ah (aT s.words s.table[i].ae)) ?_);intro H2 k2 l2 n2 g2 q2;try simp(disch:=omega)only[sm,sl]at l2 n2 g2 q2)|((with_reducible show Qs _ _ _ _ _);first|refine ai _ _ _ _ ?_|refine aD _ _ _ ?_)|simp(disch:=omega)only[↓aa,ab,simprocAttr,sa,bK, *])
     all_goals try contradiction
     all_goals try omega
     exact⟨bX.ko aw,False.elim⟩
    |true=>
     have zic:cu (aT s.words s.table[i].ae)=s.table[i].size:=wap bh
     cases hq:qS (aT s.words s.table[i].ae)with
     |false=>
      have hn:s.table.all (fB s)=false:=by rw[hE,fB,hh,bh,hq];rfl
      clear hE
      repeat'(first|(apply ao<;>intro)|refine az 6 [Fx,Fx,Fx,Fx,Fx,Fx,Fx,Fx,Fx,Fx,Fx,Fx,Fx] ?_|refine az 7 [Fx,Fx,Fx,Fx,Tx,Fx,Fx,Fx,Fx,Fx,Fx,Fx,Fx,Fx,Fx,Fx,Fx,Fx,Fx,Fx,Fx,Fx,Fx,Fx] ?_|((with_reducible show af _ _ _ _ _);(first|refine ak X (oN _ ah (AX.same aw) s.table[i].ae jU) ?_|refine ak X (qO _ ah (aT s.words s.table[i].ae)) ?_|refine ak X (yB _ ah (aT s.words s.table[i].ae)) ?_);intro H2 k2 l2 n2 g2 q2;try simp(disch:=omega)only[sm,sl]at l2 n2 g2 q2)|((with_reducible show Qs _ _ _ _ _);first|refine ai _ _ _ _ ?_|refine aD _ _ _ ?_)|simp(disch:=omega)only[↓aa,ab,simprocAttr,sa,bK, *])
      all_goals try contradiction
      all_goals try omega
      exact⟨bX.ko aw,False.elim⟩
     |true=>
      by_cases gx:s.cfg.Small s.table[i].size
      ·have hn:s.table.all (fB s)=false:=by rw[hE,fB,hh,bh,hq,wz gx];rfl
       clear hE
       repeat'(first|(apply ao<;>intro)|refine az 6 [Fx,Fx,Fx,Fx,Fx,Fx,Fx,Fx,Fx,Fx,Fx,Fx,Fx] ?_|refine az 7 [Fx,Fx,Fx,Fx,Tx,Fx,Fx,Fx,Fx,Fx,Fx,Fx,Fx,Fx,Fx,Fx,Fx,Fx,Fx,Fx,Fx,Fx,Fx,Fx] ?_|((with_reducible show af _ _ _ _ _);(first|refine ak X (oN _ ah (AX.same aw) s.table[i].ae jU) ?_|refine ak X (qO _ ah (aT s.words s.table[i].ae)) ?_|refine ak X (yB _ ah (aT s.words s.table[i].ae)) ?_|refine ak X (DR _ ah s.cfg s.table[i].size) ?_);intro H2 k2 l2 n2 g2 q2;try simp(disch:=omega)only[sm,sl]at l2 n2 g2 q2)|((with_reducible show Qs _ _ _ _ _);first|refine ai _ _ _ _ ?_|refine aD _ _ _ ?_)|simp(disch:=omega)only[↓aa,ab,simprocAttr,sa,bK, *])
       all_goals try contradiction
       all_goals try omega
       exact⟨bX.ko aw,False.elim⟩
      ·have hn:s.table.all (fB s)=(s.table.drop (i+1)).all (fB s):=by rw[hE,fB,hh,bh,hq,wx gx];rfl
       clear hE
       repeat'(first|(apply ao<;>intro)|refine az 6 [Fx,Fx,Fx,Fx,Fx,Fx,Fx,Fx,Fx,Fx,Fx,Fx,Fx] ?_|refine az 7 [Fx,Fx,Fx,Fx,Tx,Fx,Fx,Fx,Fx,Fx,Fx,Fx,Fx,Fx,Fx,Fx,Fx,Fx,Fx,Fx,Fx,Fx,Fx,Fx] ?_|refine az 9 [Fx,Fx,Fx,Fx,Fx,Fx,Fx] ?_|((with_reducible show af _ _ _ _ _);(first|refine ak X (oN _ ah (AX.same aw) s.table[i].ae jU) ?_|refine ak X (qO _ ah (aT s.words s.table[i].ae)) ?_|refine ak X (yB _ ah (aT s.words s.table[i].ae)) ?_|refine ak X (DR _ ah s.cfg s.table[i].size) ?_);intro H2 k2 l2 n2 g2 q2;try simp(disch:=omega)only[sm,sl]at l2 n2 g2 q2)|((with_reducible show Qs _ _ _ _ _);refine ai _ _ _ _ ?_)|simp(disch:=omega)only[↓aa,ab,simprocAttr,sa,bK,OL,OM, *])
       all_goals try contradiction
       all_goals try omega
       refine hQ _ _ _ ?_ ⟨i+1,rfl,by omega,?_,?_,?_,?_,?_,((bX.ko k2).setAt _).ko ((Ko.refl _).cd _),?_,hn⟩
       ·omega
       iterate 4 exact ay
       ·rw[aL,iw,cB rfl,wR,wj hlt,List.foldl_append];rfl
       ·rw[aK]
  ·have hn:s.table.all (fB s)=true:=by rw[hE,waO (by omega)];rfl
   clear hE
   repeat'(first|(apply ao<;>intro)|((with_reducible show Qs _ _ _ _ _);refine ai _ _ _ _ ?_)|simp(disch:=omega)only[↓aa,ab,simprocAttr,sa, *])
   all_goals try omega
   rw[show i=s.table.length by omega,waj]
   exact fun _=>rfl
structure Gn where
 kind:Int
 fields:List bM
 bO:List Nat
 deriving DecidableEq
structure Gr where
 nodes:List Gn
 roots:List bM
 deriving DecidableEq
def jg:List Nat→List bM→List Nat
 |l,[]=>l
 |l,v::vs=>if v.kind=2∧v.x.toNat∉l then jg (l++[v.x.toNat]) vs else jg l vs
def dg(g:Gr)(i:Nat):List bM:=match g.nodes[i]? with
 |some n=>n.fields
 |none=>[]
theorem Bg{g:Gr}{i:Nat}{n:Gn}(h:g.nodes[i]? =some n):dg g i=n.fields:=by unfold dg;rw[h]
inductive BK(g:Gr):List Nat→Nat→List Nat→Prop
 |done {l:List Nat} {k:Nat} (h:¬ k<l.length):BK g l k l
 |step {l o:List Nat} {k i:Nat} (h:l[k]? =some i) (r:BK g (jg l (dg g i)) (k+1) o):BK g l k o
def Order(g:Gr)(o:List Nat):Prop:=BK g (jg [] g.roots) 0 o
def EP(n:Nat)(l:List bM):Prop:=∀ v∈l,v.kind=2→0≤v.x∧v.x.toNat<n
structure v8(g:Gr):Prop where
 roots:EP g.nodes.length g.roots
 node:∀ n∈g.nodes,EP g.nodes.length n.fields
theorem v8.dg{g:Gr}(h:v8 g)(i:Nat):EP g.nodes.length (dg g i):=by
 unfold AM.dg
 split
 ·rename_i n hn;exact h.node n (wag hn)
 ·intro v hv;cases hv
theorem JP(x:Nat):∀ (vs:List bM) (l:List Nat),x∈jg l vs↔x∈l∨∃ v∈vs,v.kind=2∧v.x.toNat=x
 |[],l=>by simp[jg]
 |v::vs,l=>by
  unfold jg
  split
  ·rename_i h
   rw[JP x vs]
   simp only[waI,wad,exists_eq_or_imp,wbb,wck]
   constructor
   ·rintro((h1|h1)|h1)
    ·exact .inl h1
    ·exact .inr (.inl ⟨h.1,h1.symm⟩)
    ·exact .inr (.inr h1)
   ·rintro(h1|h1|h1)
    ·exact .inl (.inl h1)
    ·exact .inl (.inr h1.2.symm)
    ·exact .inr h1
  ·rename_i h
   rw[JP x vs]
   simp only[wad,exists_eq_or_imp]
   constructor
   ·rintro(h1|h1)
    ·exact .inl h1
    ·exact .inr (.inr h1)
   ·rintro(h1|h1|h1)
    ·exact .inl h1
    ·exact .inl (wbK fun h2=>h ⟨h1.1,by rw[h1.2];exact h2⟩)
    ·exact .inr h1
theorem ER:∀ (vs:List bM) (l:List Nat),l.Nodup→(jg l vs).Nodup
 |[],_,h=>h
 |v::vs,l,h=>by
  unfold jg
  split
  ·rename_i h1
   refine ER vs _ (List.nodup_append.2 ⟨h,List.nodup_cons.2 ⟨wbb,wbv⟩,fun a ha b hb e=>?_⟩)
   rw[waG]at hb
   exact h1.2 (by rw[←hb,←e];exact ha)
  ·exact ER vs l h
theorem JQ:∀ (vs:List bM) (l:List Nat),l <+: jg l vs
 |[],l=>List.prefix_rfl
 |v::vs,l=>by
  unfold jg
  split
  ·exact(List.prefix_append l _).trans (JQ vs _)
  ·exact JQ vs l
structure ziG(g:Gr)(o:List Nat):Prop where
 nodup:o.Nodup
 lt:∀ i∈o,i<g.nodes.length
 root:∀ v∈g.roots,v.kind=2→v.x.toNat∈o
 field:∀ i∈o,∀v∈dg g i,v.kind=2→v.x.toNat∈o
def RL{α β:Type}(R:α→β→Prop)(l:List α)(m:List β):Prop:=l.length=m.length∧∀ (t:Nat) i k,l[t]? =some i→m[t]? =some k→R i k
theorem RL.nil{α β:Type}{R:α→β→Prop}:RL R [] []:=⟨rfl,fun t i k h=>by simp at h⟩
theorem RL.cons{α β:Type}{R:α→β→Prop}{x:α}{y:β}{l:List α}{m:List β}(h:R x y)(h':RL R l m):RL R (x::l) (y::m):=by
 refine⟨by rw[wY,wY,h'.1],fun t i k h1 h2=>?_⟩
 cases t with
 |zero=>simp only[wQ,wi]at h1 h2;rw[←h1,←h2];exact h
 |succ t=>exact h'.2 t i k (by simpa using h1) (by simpa using h2)
def ES(R:Nat→Nat→Prop)(u v:bM):Prop:=u.kind=v.kind∧(u.kind=2→R u.x.toNat v.x.toNat)∧(u.kind≠2→u=v)
def JR(a b:Gr)(R:Nat→Nat→Prop)(i k:Nat):Prop:=∃ x y,a.nodes[i]? =some x∧b.nodes[k]? =some y∧x.kind=y.kind∧x.bO=y.bO∧RL (ES R) x.fields y.fields
def Inj(R:Nat→Nat→Prop):Prop:=∀ i k i' k',R i k→R i' k'→(i=i'↔k=k')
structure Rp(a b:Gr)(R:Nat→Nat→Prop):Prop where
 roots:RL (ES R) a.roots b.roots
 node:∀ i k,R i k→JR a b R i k
 inj:Inj R
theorem AY:∀ (n:Nat) (l:List Nat),l.Nodup→(∀x∈l,x<n)→l.length≤n
 |0,l,_,h=>by
  cases l with
  |nil=>exact wy _
  |cons x l=>exact absurd (h x (wW ..)) (Nat.not_lt_zero _)
 |n+1,l,hn,h=>by
  have h1:=AY n (l.erase n) (hn.erase n) fun x hx=>by
   have:=(hn.mem_erase_iff).1 hx
   have:=h x this.2
   omega
  by_cases hm:n∈l
  ·rw[List.length_erase_of_mem hm]at h1;omega
  ·rw[List.erase_of_not_mem hm]at h1;omega
theorem Rq{n:Nat}{vs:List bM}{l:List Nat}(hv:EP n vs)(h:∀ x∈l,x<n):∀ x∈jg l vs,x<n:=fun x hx=>by
 rcases(JP x vs l).1 hx with h1|⟨v,h1,h2,h3⟩
 ·exact h x h1
 ·rw[←h3];exact(hv v h1 h2).2
theorem Ih(l:List Nat)(v:bM):jg l [v]=if v.kind=2∧v.x.toNat∉l then l++[v.x.toNat]else l:=rfl
def mq(n:Nat)(v:bM):Prop:=v.Ok∧(v.kind=2→v.x<n)
structure gP(g:Gr):Prop where
 node:∀ x∈g.nodes,0≤x.kind∧x.kind≤31∧x.fields.length≤4096∧x.bO.length≤4096∧∀ v∈x.fields,mq g.nodes.length v
 root:∀ v∈g.roots,mq g.nodes.length v
theorem gP.right{g:Gr}(h:gP g):v8 g:=by
 have key:∀ v,mq g.nodes.length v→v.kind=2→0≤v.x∧v.x.toNat<g.nodes.length:=fun v hv hk=>by
  have h1:=hv.1
  have h2:=hv.2 hk
  unfold bM.Ok at h1
  omega
 exact⟨fun v hv=>key v (h.root v hv),fun x hx v hv=>key v ((h.node x hx).2.2.2.2 v hv)⟩
def RT(To:List Int)(i k:Nat):Prop:=To[i]? =some (k:Int)
structure Rr(a b:Gr)(To At:List Int):Prop where
 tl:To.length=a.nodes.length
 al:At.length=b.nodes.length
 both:∀ i k:Nat,To[i]? =some (k:Int)↔At[k]? =some (i:Int)
 to:∀ (i:Nat) (x:Int),To[i]? =some x→x= -1∨∃ k:Nat,x=k
 ae:∀ (k:Nat) (x:Int),At[k]? =some x→x= -1∨∃ i:Nat,x=i
structure ziH(a b:Gr)(To At:List Int)(xs ys:List bM)(oq J0:List Int)(bad:Bool):Prop where
 inv:Rr a b oq J0
 ext:∀ i k,RT To i k→RT oq i k
 ok:bad=false→RL (ES (RT oq)) xs ys∧∀ i k,RT oq i k→¬ RT To i k→JR a b (RT oq) i k
 sub:∀ R,Rp a b R→(∀i k,RT To i k→R i k)→RL (ES R) xs ys→bad=false∧∀ i k,RT oq i k→R i k
structure ziI(a b:Gr)(To At:List Int)(i k:Nat)(oq J0:List Int)(bad:Bool):Prop where
 inv:Rr a b oq J0
 ext:∀ i k,RT To i k→RT oq i k
 ok:bad=false→RT oq i k∧∀ i k,RT oq i k→¬ RT To i k→JR a b (RT oq) i k
 sub:∀ R,Rp a b R→(∀i k,RT To i k→R i k)→R i k→bad=false∧∀ i k,RT oq i k→R i k
section
variable{a b:Gr}{To At:List Int}
end
set_option maxHeartbeats 4000000
def cy(v:bM):List Value:=[.int .i64 v.kind,.int .i64 v.x]
def dP:Heap→List Value→bM→Prop:=fun _ part v=>part=cy v
theorem dP.mono:oM dP:=fun _ _ _ _ _ h=>h
theorem oe.ext{H H':Heap}{v:Value}(h:oe H v)(hs:Ext H H'):oe H' v:=by
 intro a l c e
 rcases h a l c e with h|⟨r,cells,g,t,h1,h2,h3⟩
 ·exact .inl h
 ·obtain⟨t',h4⟩:=hs.2 r cells g t h2 h3
  exact .inr ⟨r,cells,g,t',h1,wq h2 hs.1,h4⟩
theorem aZ.ext{α:Type}{R:Heap→List Value→α→Prop}(hR:oM R){z:Nat}{H H':Heap}{v:Value}{l:List α}(h:aZ R z H v l)(hs:Ext H H'):aZ R z H' v l:=⟨h.1.ext hR hs,h.2.ext hs⟩
def BC:Heap→List Value→Gn→Prop:=fun H part n=>∃ f r,part=[.int .i64 n.kind,f,r]∧aZ dP 2 H f n.fields∧aZ RW 1 H r n.bO
theorem BC.mono:oM BC:=fun _ _ _ _ hs ⟨f,r,h1,h2,h3⟩=>⟨f,r,h1,h2.ext dP.mono hs,h3.ext RW.mono hs⟩
structure fD(H:Heap)(x y:Value)(g:Gr):Prop where
 nodes:aZ BC 3 H x g.nodes
 roots:aZ dP 2 H y g.roots
theorem fD.ko{H X:Heap}{x y:Value}{g:Gr}(h:fD H x y g)(k:Ko H X):fD X x y g:=⟨h.nodes.ko BC.mono k,h.roots.ko dP.mono k⟩
theorem pQ{l:List Value}{o i:Nat}{x:Value}(h:cut l (o+i*1) 1=some [x]):l[o+i]? =some x:=by
 rw[waY]at h
 exact DZ h
theorem Q2(H:Heap)(aj:H.lo≤H.next)(v:bM):af E (aC 157) [cX v] H fun r H'=>r= .bool (decide v.Ok)∧aq H H':=by
 refine aQ Tryz.f157 ?_
 simp only[Tryz.f157]
 simp only[cX]
 repeat'(first|(apply ao<;>intro)|simp(disch:=omega)only[↓aa,ab,simprocAttr,sa, *])
 all_goals((with_reducible show _∧_);exact⟨fe (by simp only[wT,wG,wbh,wa5,bM.Ok];first|omega|(simp[*]<;>omega)),aF⟩)
theorem zhg(H:Heap)(aj:H.lo≤H.next){x y:Value}{g:Gr}(hG:fD H x y g)(v:Value)(l:List bM)(hv:aZ dP 2 H v l)(hl:∀ u∈l,mq g.nodes.length u):af E (aC 111) [.agg #[x,y],v] H fun r H'=>r= .bool true∧aq H H':=by
 obtain⟨⟨⟨na,nc,rfl,⟨_,hn⟩,_⟩,_⟩,⟨⟨ra,rc,rfl,_,_⟩,_⟩⟩:=hG
 obtain⟨⟨a,ca,rfl,⟨_,jP⟩,bJ⟩, -⟩:=hv
 refine aQ Tryz.f111 ?_
 simp only[Tryz.f111]
 simp(disch:=omega)only[↓aa,ab,simprocAttr,sa, *]
 refine bC H [1,2,5] (fun T1 H1 u1 k1 n1 l1 g1=>?_) aw
 try simp(disch:=omega)only[sm,sl]at n1 l1 g1
 simp only[sq,simprocAttr]at u1
 refine bt kq (fun nn T X=>∃ i:Nat,nn=l.length-i∧(T.get 5=some (.int .i64 i))∧(T.get 1=T1.get 1∧T.get 2=T1.get 2)∧Ko H1 X∧X.lo=H1.lo∧(i≤l.length)) ?_ ?_
 ·refine⟨_,0,rfl,?_,?_,Ko.refl _,rfl,wJ _⟩<;>exact ay
 rintro nn fk X1 ⟨i,rfl,m1,w1,bu,iz,hi⟩ Qs hQ aD ai
 have cw:=k1.trans bu;have fp:=bu.ag;have fX:=bu.objs
 by_cases hlt:i<l.length
 ·obtain⟨r,o,cells,gg,tt,part,rfl,hr,aG,a8,rfl⟩:=bJ i l[i] (by simp)
  have a1:=bI hlt
  have e1:=cw.objs r hr
  have ho:=hl l[i] (wam hlt)
  generalize l[i]=u at*
  obtain⟨o1,o2⟩:=ho
  have hd:decide u.Ok=true:=wz o1
  unfold cy at a8
  obtain⟨q0,q1⟩:=HC a8
  by_cases hk:u.kind=2
  ·have o3:=o2 hk
   have fC:decide (u.kind=2)=true:=wz hk
   clear hk o2
   have hb:decide ((g.nodes.length:Int)≤u.x)=false:=wx (by omega)
   repeat'(first|(apply ao<;>intro)|refine az 4 [Fx,Fx,Fx,Fx,Fx,Fx,Fx,Fx,Fx,Fx,Fx,Fx,Fx,Fx,Fx,Fx,Fx,Fx,Fx,Fx,Fx,Fx,Fx,Fx,Fx] ?_|((with_reducible show af _ _ _ _ _);refine ak H1 (Q2 _ ah u) ?_;intro H2 k2 l2 n2 g2 q2;try simp(disch:=omega)only[sm,sl]at l2 n2 g2 q2)|((with_reducible show Qs _ _ _ _ _);refine ai _ _ _ _ ?_)|simp(disch:=omega)only[↓aa,ab,simprocAttr,sa,cX, *])
   all_goals first|(refine hQ _ _ _ ?_ ⟨i+1,rfl,?_,?_,?_,?_,by omega⟩<;>exact ay)|omega|trace_state
  ·have fC:decide (u.kind=2)=false:=wx hk
   clear hk o2
   repeat'(first|(apply ao<;>intro)|refine az 4 [Fx,Fx,Fx,Fx,Fx,Fx,Fx,Fx,Fx,Fx,Fx,Fx,Fx,Fx,Fx,Fx,Fx,Fx,Fx,Fx,Fx,Fx,Fx,Fx,Fx] ?_|((with_reducible show af _ _ _ _ _);refine ak H1 (Q2 _ ah u) ?_;intro H2 k2 l2 n2 g2 q2;try simp(disch:=omega)only[sm,sl]at l2 n2 g2 q2)|((with_reducible show Qs _ _ _ _ _);refine ai _ _ _ _ ?_)|simp(disch:=omega)only[↓aa,ab,simprocAttr,sa,cX, *])
   all_goals first|(refine hQ _ _ _ ?_ ⟨i+1,rfl,?_,?_,?_,?_,by omega⟩<;>exact ay)|omega|trace_state
 ·repeat'(first|(apply ao<;>intro)|refine az 4 [Fx,Fx,Fx,Fx,Fx,Fx,Fx,Fx,Fx,Fx,Fx,Fx,Fx,Fx,Fx,Fx,Fx,Fx,Fx,Fx,Fx,Fx,Fx,Fx,Fx] ?_|((with_reducible show Qs _ _ _ _ _);refine ai _ _ _ _ ?_)|simp(disch:=omega)only[↓aa,ab,simprocAttr,sa, *])
  all_goals exact cf
theorem zcv(H:Heap)(aj:H.lo≤H.next){x y:Value}{g:Gr}(hG:fD H x y g)(hg:gP g):af E (aC 72) [.agg #[x,y]] H fun r H'=>r= .bool true∧aq H H':=by
 have c1:=fun(X:Heap) (hx:X.lo≤X.next) (k:Ko H X) (v:Value) (l:List bM) (hv:aZ dP 2 X v l) (hl:∀ u∈l,mq g.nodes.length u)=>zhg X hx (hG.ko k) v l hv hl
 have Dk:=hG.roots
 obtain⟨⟨⟨na,nc,rfl,⟨_,hn⟩,bJ⟩,Ig⟩,⟨⟨ra,rc,rfl,_,_⟩,_⟩⟩:=hG
 refine aQ Tryz.f72 ?_
 simp only[Tryz.f72]
 simp(disch:=omega)only[↓aa,ab,simprocAttr,sa, *]
 refine bC H [1,3] (fun T1 H1 u1 k1 n1 l1 g1=>?_) aw
 try simp(disch:=omega)only[sm,sl]at n1 l1 g1
 simp only[sq,simprocAttr]at u1
 refine bt kq (fun nn T X=>∃ i:Nat,nn=g.nodes.length-i∧(T.get 3=some (.int .i64 i))∧(T.get 1=T1.get 1)∧Ko H1 X∧X.lo=H1.lo∧(i≤g.nodes.length)) ?_ ?_
 ·refine⟨_,0,rfl,?_,?_,Ko.refl _,rfl,wJ _⟩<;>exact ay
 rintro nn fk X1 ⟨i,rfl,m1,w1,bu,iz,hi⟩ Qs hQ aD ai
 have cw:=k1.trans bu;have fp:=bu.ag;have fX:=bu.objs
 by_cases hlt:i<g.nodes.length
 ·obtain⟨r,o,cells,gg,tt,part,rfl,hr,aG,a8,f,w,rfl,hf,hw⟩:=bJ i g.nodes[i] (by simp)
  have a1:=bI hlt
  have e1:=cw.objs r hr
  have ho:=hg.node g.nodes[i] (wam hlt)
  generalize g.nodes[i]=n at*
  obtain⟨o1,o2,o3,o4,o5⟩:=ho
  have je:=hf
  obtain⟨⟨fa,fc,rfl,⟨_,fm⟩,_⟩,_⟩:=hf
  obtain⟨⟨wa,wc,rfl,⟨_,wm⟩,_⟩,_⟩:=hw
  repeat'(first|(apply ao<;>intro)|apply bQ|((with_reducible show af _ _ _ _ _);refine ak H1 (c1 _ ah aw _ _ (je.ko dP.mono aw) o5) ?_;intro H2 k2 l2 n2 g2 q2;try simp(disch:=omega)only[sm,sl]at l2 n2 g2 q2)|((with_reducible show Qs _ _ _ _ _);first|refine ai _ _ _ _ ?_|refine aD _ _ _ ?_)|simp(disch:=omega)only[↓aa,ab,simprocAttr,sa, *])
  all_goals first|refine hQ _ _ _ ?_ ⟨i+1,rfl,?_,?_,?_,?_,by omega⟩<;>exact ay|omega|trace_state
 ·repeat'(first|(apply ao<;>intro)|((with_reducible show af _ _ _ _ _);refine ak H1 (c1 _ ah aw _ _ (Dk.ko dP.mono aw) hg.root) ?_;intro H2 k2 l2 n2 g2 q2;try simp(disch:=omega)only[sm,sl]at l2 n2 g2 q2)|((with_reducible show Qs _ _ _ _ _);refine ai _ _ _ _ ?_)|simp(disch:=omega)only[↓aa,ab,simprocAttr,sa, *])
  all_goals exact cf
theorem zhh(H:Heap)(aj:H.lo≤H.next){x y:Value}{g:Gr}(hG:fD H x y g)(v:bM)(hv:mq g.nodes.length v):af E (aC 246) [.agg #[x,y],cX v] H fun r H'=>r= .bool true∧aq H H':=by
 have c1:=fun(X:Heap) (hx:X.lo≤X.next)=>Z9 X hx v
 obtain⟨⟨⟨na,nc,rfl,⟨_,hn⟩,_⟩,_⟩,⟨⟨ra,rc,rfl,_,_⟩,_⟩⟩:=hG
 obtain⟨o1,o2⟩:=hv
 have e1:(if v.Ok then(0:Int)else 1)=0:=wF o1
 rw[e1]at c1
 unfold cX at c1
 refine aQ Tryz.f246 ?_
 simp only[Tryz.f246]
 simp only[cX]
 by_cases hk:v.kind=2
 ·have o3:=o2 hk
  have hb:decide (v.x<(g.nodes.length:Int))=true:=wz (by omega)
  have fC:decide (v.kind=2)=true:=wz hk
  clear hk o1 o2 e1
  repeat'(first|((with_reducible show af _ _ _ _ _);refine ak H (c1 _ ah) ?_;intro H2 k2 l2 n2 g2 q2;try simp(disch:=omega)only[sm,sl]at l2 n2 g2 q2)|simp(disch:=omega)only[↓aa,ab,simprocAttr,sa, *])
  all_goals exact cf
 ·have fC:decide (v.kind=2)=false:=wx hk
  clear hk o1 o2 e1
  repeat'(first|((with_reducible show af _ _ _ _ _);refine ak H (c1 _ ah) ?_;intro H2 k2 l2 n2 g2 q2;try simp(disch:=omega)only[sm,sl]at l2 n2 g2 q2)|simp(disch:=omega)only[↓aa,ab,simprocAttr,sa, *])
  all_goals exact cf
theorem zhi(H:Heap)(aj:H.lo≤H.next){x y:Value}{g:Gr}(hG:fD H x y g):af E (aC 245) [.agg #[x,y]] H fun r H'=>r= .func (.func 289) #[] #[ptr H.next 0]∧H'.objs.get H.next=some (.row [x,y] none true)∧H'.next=H.next+1∧aq H H':=by
 obtain⟨⟨⟨na,nc,rfl,⟨_,hn⟩,_⟩,_⟩,⟨⟨ra,rc,rfl,_,_⟩,_⟩⟩:=hG
 refine aQ Tryz.f245 ?_
 simp only[Tryz.f245]
 simp(disch:=omega)only[↓aa,ab,simprocAttr,sa,DK,GQ,DM,DL, *]
 exact aF
def EL(g:Gr):List bM:=g.nodes.flatMap (·.fields)++g.roots
theorem zhj:E.fn.get 289=some Tryz.f289:=kq
theorem zhk(H:Heap)(aj:H.lo≤H.next)(bV:Nat){x z:Value}{g:Gr}(hV:H.objs.get bV=some (.row [x,z] none true))(lV:bV<H.next)(hG:fD H x z g)
  (y:Value) (I:List bM→Heap→Prop) (F:Heap→Prop) (H1:Heap) (sH:aq H H1) (jq:H1.next=H.next+2) (hI:∀ rest X X',I rest X→Pd (H.next+2) X X'→I rest X') (hB:∀ rest X,I rest X→fV H [] X)
  (hy:∀ v rest X,I (v::rest) X→af E y [cX v] X fun r X'=>(r= .bool true∧I rest X'∧Yd (H.next+2) ((H.next+1)::[]) X X')∨(r= .bool false∧F X'))
  (h0:I (EL g) H1):af E (.func (.func 289) #[] #[ptr bV 0]) [y] H1 fun _ X=>I [] X∨F X:=by
 have x6:=hB _ _ h0
 have e1:=(x6.objs bV lV (by simp)).trans hV
 have l1:=sH.lo
 obtain⟨⟨⟨na,nc,rfl,⟨Ce,hn⟩,bJ⟩,_⟩,⟨⟨ra,rc,rfl,⟨hrc,gF⟩,Cg⟩,_⟩⟩:=hG
 unfold EL at h0
 refine AF kq zhj rfl rfl ?_
 simp only[Tryz.f289]
 simp(disch:=omega)only[↓aa,ab,simprocAttr,sa,wL,wat, *]
 refine bC H1 [0,1,10,11,12] (fun T5 H5 u5 j5 n5 l5 g5=>?_) aw
 try simp(disch:=omega)only[sm,sl]at n5 l5 g5
 simp only[sq,simprocAttr]at u5
 refine bt kq (fun nn T X=>∃ i:Nat,nn=g.nodes.length-i∧(T.get 12=some (.int .i64 i))∧(T.get 0=T5.get 0∧T.get 1=T5.get 1∧T.get 10=T5.get 10∧T.get 11=T5.get 11)∧True∧True∧(i≤g.nodes.length∧I ((g.nodes.drop i).flatMap (·.fields)++g.roots) X)) ?_ ?_
 ·have i5:=hI _ _ _ h0 (aq.pd (j5.same l5) (by omega))
  refine⟨_,0,rfl,?_,?_,trivial,trivial,wJ _,i5⟩<;>exact ay
 rintro nn iB X5 ⟨i,rfl,m5,w5,_,_,hi,BD⟩ Qs hQ aD ai
 have EM:=hB _ _ BD
 have lX:=EM.lo;have nX:=EM.ag
 have eV:=(EM.objs bV lV (by simp)).trans hV
 by_cases hlt:i<g.nodes.length
 ·obtain⟨r,o,cells,gg,tt,part,rfl,hr,aG,a8,fv,wv,rfl,hf,hw⟩:=bJ i g.nodes[i] (by simp)
  have a1:=bI hlt
  have eX:=(EM.objs r hr (by simp)).trans aG
  rw[wX hlt,wbm,waP]at BD
  generalize g.nodes[i]=nd at*
  obtain⟨⟨fa,fc,rfl,⟨_,fm⟩,lF⟩,_⟩:=hf
  obtain⟨⟨wa,wc,rfl,⟨_,wm⟩,_⟩,_⟩:=hw
  repeat'(first|(apply ao<;>intro)|((with_reducible show Qs _ _ _ _ _);refine ai _ _ _ _ ?_)|simp(disch:=omega)only[↓aa,ab,simprocAttr,sa,wL,wat, *])
  all_goals try omega
  have fO:=hQ
  have uH:=aD
  refine bC X5 [0,1,10,11,12,17,18,19] (fun T6 H6 u6 j6 n6 l6 g6=>?_) aw
  try simp(disch:=omega)only[sm,sl]at n6 l6 g6
  simp only[sq,simprocAttr]at u6
  refine bt kq (fun nn T X=>∃ (j:Nat),nn=nd.fields.length-j∧(T.get 19=some (.int .i64 j))∧(T.get 0=T6.get 0∧T.get 1=T6.get 1∧T.get 10=T6.get 10∧T.get 11=T6.get 11∧T.get 12=T6.get 12∧T.get 17=T6.get 17∧T.get 18=T6.get 18)∧True∧True∧(j≤nd.fields.length∧I (nd.fields.drop j++((g.nodes.drop (i+1)).flatMap (·.fields)++g.roots)) X)) ?_ ?_
  ·have i6:=hI _ _ _ BD (aq.pd (j6.same (by first|omega|(simp only[l6];omega))) (by omega))
   refine⟨_,0,rfl,?_,?_,trivial,trivial,wJ _,i6⟩<;>exact ay
  rintro nn xh X6 ⟨j,rfl,m6,w6,_,_,hj,BE⟩ Qs hQ aD ai
  have Jw:=hB _ _ BE
  have Q3:=Jw.lo;have nX6:=Jw.ag
  by_cases BF:j<nd.fields.length
  ·obtain⟨r2,o2,nq,EC,ED,xe,rfl,dW,jY,iV,rfl⟩:=lF j nd.fields[j] (by simp)
   have a2:=bI BF
   have zf:=(Jw.objs r2 dW (by simp)).trans jY
   rw[wX BF,wat]at BE
   generalize nd.fields[j]=u at*
   unfold cy at iV
   repeat'(first|(apply ao<;>intro)|((with_reducible show Qs _ _ _ _ _);refine ai _ _ _ _ ?_)|simp(disch:=omega)only[↓aa,ab,simprocAttr,sa,wL,wat, *])
   all_goals try omega
   refine uz hI hy BE aF nX6 ?_ ?_
   ·intro X' h1 h2
    have lY:=h2.lo;have nY:=h2.ag
    simp(disch:=omega)only[sm,sl]at lY nY
    clear h2
    simp(disch:=omega)only[↓aa,ab,simprocAttr,sa, *]
    refine hQ _ _ _ ?_ ⟨j+1,rfl,?_,?_,trivial,trivial,by omega,h1⟩<;>exact ay
   ·intro X' h1
    repeat'(first|((with_reducible show Qs _ _ _ _ _);refine aD _ _ _ ?_)|simp(disch:=omega)only[↓aa,ab,simprocAttr,sa, *])
    refine uH _ _ _ ?_
    simp(disch:=omega)only[↓aa,ab,simprocAttr,sa, *]
    first|exact .inr h1|exact .inr trivial
  ·have ej:j=nd.fields.length:=by omega
   rw[ej,wbF,wL]at BE
   have hQ:=fO
   repeat'(first|(apply ao<;>intro)|((with_reducible show Qs _ _ _ _ _);refine ai _ _ _ _ ?_)|simp(disch:=omega)only[↓aa,ab,simprocAttr,sa,wL,wat, *])
   all_goals try omega
   refine hQ _ _ _ ?_ ⟨i+1,rfl,?_,?_,trivial,trivial,by omega,BE⟩<;>exact ay
 ·have ei:i=g.nodes.length:=by omega
  rw[ei,wbF,List.flatMap_nil,wL]at BD
  repeat'(first|(apply ao<;>intro)|((with_reducible show Qs _ _ _ _ _);refine ai _ _ _ _ ?_)|simp(disch:=omega)only[↓aa,ab,simprocAttr,sa,wL,wat, *])
  all_goals try omega
  refine bC X5 [0,30,31,32] (fun T7 H7 u7 j7 n7 l7 g7=>?_) aw
  try simp(disch:=omega)only[sm,sl]at n7 l7 g7
  simp only[sq,simprocAttr]at u7
  refine bt kq (fun nn T X=>∃ (j:Nat),nn=g.roots.length-j∧(T.get 32=some (.int .i64 j))∧(T.get 0=T7.get 0∧T.get 30=T7.get 30∧T.get 31=T7.get 31)∧True∧True∧(j≤g.roots.length∧I (g.roots.drop j) X)) ?_ ?_
  ·have i7:=hI _ _ _ BD (aq.pd (j7.same (by first|omega|(simp only[l7];omega))) (by omega))
   refine⟨_,0,rfl,?_,?_,trivial,trivial,wJ _,i7⟩<;>exact ay
  rintro nn En X7 ⟨j,rfl,m7,w7,_,_,hj,BG⟩ Qs hQ aD ai
  have Jx:=hB _ _ BG
  have Q4:=Jx.lo;have nX7:=Jx.ag
  by_cases BF:j<g.roots.length
  ·obtain⟨r2,o2,nq,EC,ED,xe,rfl,dW,jY,iV,rfl⟩:=Cg j g.roots[j] (by simp)
   have a2:=bI BF
   have zf:=(Jx.objs r2 dW (by simp)).trans jY
   rw[wX BF]at BG
   generalize g.roots[j]=u at*
   unfold cy at iV
   repeat'(first|(apply ao<;>intro)|((with_reducible show Qs _ _ _ _ _);refine ai _ _ _ _ ?_)|simp(disch:=omega)only[↓aa,ab,simprocAttr,sa,wL,wat, *])
   all_goals try omega
   refine uz hI hy BG aF nX7 ?_ ?_
   ·intro X' h1 h2
    have lY:=h2.lo;have nY:=h2.ag
    simp(disch:=omega)only[sm,sl]at lY nY
    clear h2
    simp(disch:=omega)only[↓aa,ab,simprocAttr,sa, *]
    refine hQ _ _ _ ?_ ⟨j+1,rfl,?_,?_,trivial,trivial,by omega,h1⟩<;>exact ay
   ·intro X' h1
    repeat'(first|((with_reducible show Qs _ _ _ _ _);refine aD _ _ _ ?_)|simp(disch:=omega)only[↓aa,ab,simprocAttr,sa, *])
    first|exact .inr h1|exact .inr trivial
  ·have ej:j=g.roots.length:=by omega
   rw[ej,wbF]at BG
   repeat'(first|(apply ao<;>intro)|((with_reducible show Qs _ _ _ _ _);refine ai _ _ _ _ ?_)|simp(disch:=omega)only[↓aa,ab,simprocAttr,sa,wL,wat, *])
   all_goals try omega
   first|exact .inl BG|exact .inl trivial
theorem zhl:E.fn.get 206=some Tryz.f206:=kq
theorem zbE(H:Heap)(aj:H.lo≤H.next){x z:Value}{g:Gr}(hG:fD H x z g)(hg:gP g):af E (aC 206) [.agg #[x,z]] H fun r H'=>r= .bool true∧aq H H':=by
 have cS:=fun(X:Heap) (hx:X.lo≤X.next) (k:Ko H X) (v:bM) (hv:mq g.nodes.length v)=>zhh X hx (hG.ko k) v hv
 have cV:=fun(X:Heap) (hx:X.lo≤X.next) (k:Ko H X)=>zhi X hx (hG.ko k)
 have mu:=hG
 have hA:∀ u∈EL g,mq g.nodes.length u:=fun u hu=>by
  rcases waI.1 hu with hu|hu
  ·obtain⟨n,hn,hu⟩:=List.mem_flatMap.1 hu
   exact(hg.node n hn).2.2.2.2 u hu
  ·exact hg.root u hu
 obtain⟨⟨⟨na,nc,rfl,⟨Ce,hn⟩,bJ⟩,_⟩,⟨⟨ra,rc,rfl,⟨hrc,gF⟩,Cg⟩,_⟩⟩:=hG
 refine DB kq zhl rfl rfl ?_
 simp only[Tryz.f206]
 simp(disch:=omega)only[↓aa,ab,simprocAttr,sa,wL,waw, *]
 refine bC H [1,2,7,8,9,36] (fun T1 H1 u1 k1 n1 l1 g1=>?_) aw
 try simp(disch:=omega)only[sm,sl]at n1 l1 g1
 simp only[sq,simprocAttr]at u1
 refine bt kq (fun nn T X=>∃ i:Nat,nn=g.nodes.length-i∧(T.get 9=some (.int .i64 i))∧(T.get 1=T1.get 1∧T.get 2=T1.get 2∧T.get 7=T1.get 7∧T.get 8=T1.get 8∧T.get 36=T1.get 36)∧Ko H1 X∧X.lo=H1.lo∧(i≤g.nodes.length)) ?_ ?_
 ·refine⟨_,0,rfl,?_,?_,Ko.refl _,rfl,wJ _⟩<;>exact ay
 rintro nn fk X1 ⟨i,rfl,m1,w1,bu,iz,hi⟩ Qs hQ aD ai
 have cw:=k1.trans bu;have fp:=bu.ag;have fX:=bu.objs
 have b1:=fX H.next (by omega)
 have b2:=fX (H.next+1) (by omega)
 rw[g1]at b1 b2
 by_cases hlt:i<g.nodes.length
 ·obtain⟨r,o,cells,gg,tt,part,rfl,hr,aG,a8,f,w,rfl,hf,hw⟩:=bJ i g.nodes[i] (by simp)
  have a1:=bI hlt
  have e1:=cw.objs r hr
  have ho:=hg.node g.nodes[i] (wam hlt)
  generalize g.nodes[i]=n at*
  obtain⟨o1,o2,o3,o4,o5⟩:=ho
  obtain⟨⟨fa,fc,rfl,⟨_,fm⟩,_⟩,_⟩:=hf
  obtain⟨⟨wa,wc,rfl,⟨_,wm⟩,_⟩,_⟩:=hw
  repeat'(first|(apply ao<;>intro)|apply bQ|((with_reducible show Qs _ _ _ _ _);refine ai _ _ _ _ ?_)|simp(disch:=omega)only[↓aa,ab,simprocAttr,sa,wL,waw, *])
  all_goals first|(refine hQ _ _ _ ?_ ⟨i+1,rfl,?_,?_,?_,?_,by omega⟩<;>exact ay)|omega|trace_state
 ·repeat'(first|(apply ao<;>intro)|((with_reducible show Qs _ _ _ _ _);refine ai _ _ _ _ ?_)|simp(disch:=omega)only[↓aa,ab,simprocAttr,sa,wL,waw, *])
  all_goals try omega
  have eX:X1.objs.get H.next=some (.row [.slice na g.nodes.length nc,.slice ra g.roots.length rc] none true):=by
   rw[b1]
   simp(disch:=omega)only[aA,aM,aB,aJ,aH,aI,aN,aO,aR,aP,aL,aE,aK,au,sl, *]
  have eR:∃ c,X1.objs.get (H.next+1)=some (.row [c] none true):=by
   refine⟨.bool false,?_⟩
   rw[b2]
   simp(disch:=omega)only[aA,aM,aB,aJ,aH,aI,aN,aO,aR,aP,aL,aE,aK,au,sl, *]
  refine(cV _ ah aw).mono ?_
  rintro rr H3 ⟨rfl,b3,n3,s3⟩
  have k3:Ko H H3:=Ko.call aw s3
  have l3:=s3.lo
  have nn3:=s3.ag
  have f1:=(s3.objs H.next (by omega)).trans eX
  obtain⟨c0,eR⟩:=eR
  have f2:=(s3.objs (H.next+1) (by omega)).trans eR
  have hG3:=mu.ko k3
  clear b1 b2 eX eR cV s3
  refine CO (enc:=cX) (xs:=EL g) (g:=289) (first:= #[]) (cap:= #[ptr X1.next 0])
   (J:=fun rest X=>∀ u∈rest,mq g.nodes.length u) (R:=fun X=>False) (ex:=[]) ?_ (by omega) ?_ ?_ (fun _ _=>by kernel_rfl) (fun _ _ _=>by kernel_rfl) ?_ ?_ ?_ ?_ ?_ ?_ ?_ ?_
  ·intro x hx;cases hx
  ·simp(disch:=omega)only[↓aa,ab,simprocAttr]
  ·exact wap rfl
  ·intro rest X X' h _ _;exact h
  ·intro rest X X' h _;exact h
  ·intro X X' h _;exact h
  ·intro X _ _;exact hA
  ·intro y I F H4 sH jq hI hB hy h0
   exact zhk H3 (by omega) X1.next b3 (by omega) hG3 y I F H4 sH jq hI hB hy h0
  ·intro v rest X hJ rb
   have lX:=rb.lo;have nX:=rb.ag
   have q1:=(rb.objs H.next (by omega) (by simp)).trans f1
   have kX:=rb.ko k3 (fun x hx=>by cases hx)
   have nH:=kX.ag
   simp only[cX]
   simp(disch:=omega)only[↓aa,ab,simprocAttr,sa, *]
   refine⟨aF,fun X2 of=>?_⟩
   have gA:Ko H X2:=⟨by have:=of.next;simp(disch:=omega)only[sm,sl]at this;omega,fun x hx=>(of.objs x (by omega)).trans (by simp(disch:=omega)only[aA,aM,aB,aJ,aH,aI,aN,aO,aR,aP,aL,aE,aK,au,sl];exact kX.objs x hx),fun x hx=>by rw[of.grps];simp(disch:=omega)only[aA,aM,aB,aJ,aH,aI,aN,aO,aR,aP,aL,aE,aK,au,sl];exact kX.grps x hx⟩
   have o1:=of.next;have o2:=of.lo
   have o3:=of.objs X.next (by omega)
   have o4:=of.objs H.next (by omega)
   simp(disch:=omega)only[sm,sl]at o1 o2 o3 o4
   clear of
   have Q5:=fun(X:Heap) (hx:X.lo≤X.next) (k:Ko H X)=>cS X hx k v (hJ v (wW ..))
   unfold cX at Q5
   repeat'(first|((with_reducible show af _ _ _ _ _);refine ak X2 (Q5 _ ah aw) ?_;intro H2 k2 l2 n2 g2 q2;try simp(disch:=omega)only[sm,sl]at l2 n2 g2 q2)|simp(disch:=omega)only[↓aa,ab,simprocAttr,sa, *])
   exact⟨(k2.same (by omega)).yd (by omega),.inl fun u hu=>hJ u (wM _ hu)⟩
  ·intro X h rb
   have lX:=rb.lo;have nX:=rb.ag
   have dX:=rb.vy
   have q2:=(rb.objs (H.next+1) (by omega) (by simp)).trans f2
   have kX:=rb.ko k3 (fun x hx=>by cases hx)
   have nH:=kX.ag
   simp(disch:=omega)only[↓aa,ab,simprocAttr,sa, *]
   have d1:(X.setRow (H.next+1) [Value.bool true]).objs.get (X1.next+1)=some .defers:=by
    rw[aA,au (by omega),wS,←n3];exact dX
   refine⟨_,Au d1 (by omega),?_⟩
   have d2:=uq (X.setRow (H.next+1) [Value.bool true]).objs (X1.next+1) (H.next+1) (by omega)
   have d3:(X.setRow (H.next+1) [Value.bool true]).objs.get (H.next+1)=some (.row [.bool true] none true):=by rw[aA,cB rfl];rfl
   rw[d3]at d2
   simp(disch:=omega)only[↓aa,ab,simprocAttr,sa, *]
   exact AQ (X:=X.setRow (H.next+1) [Value.bool true]) aw (by omega) rfl rfl
  ·intro X h;exact h.elim
theorem Ii(H:Heap)(aj:H.lo≤H.next)(k:Int)(f w:Value)(n:Gn)(hf:aZ dP 2 H f n.fields)(hw:aZ RW 1 H w n.bO)(h1:n.fields.length≤100000)(h2:n.bO.length≤100000):af E (aC 30) [.agg #[.int .i64 k,f,w]] H fun r H'=>r= .int .i64 (1+n.fields.length+n.bO.length)∧aq H H':=by
 obtain⟨⟨fa,fc,rfl,⟨_,fm⟩,_⟩,_⟩:=hf
 obtain⟨⟨wa,wc,rfl,⟨_,wm⟩,_⟩,_⟩:=hw
 refine aQ Tryz.f30 ?_
 simp only[Tryz.f30]
 simp(disch:=omega)only[↓aa,ab,simprocAttr,sa, *]
 all_goals exact cf
end Go.AM
