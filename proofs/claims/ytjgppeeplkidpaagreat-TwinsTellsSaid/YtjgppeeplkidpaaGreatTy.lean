/-
  Walks over letters of the functions that the law reaches; written small by a program of mine.
-/
import Derived.Test.YtjgppeeplkidpaaGreatAMc
import Derived.Test.YtjgppeeplkidpaaGreatChecked
import Derived.KernelRfl
set_option linter.unusedSimpArgs false
set_option linter.unusedVariables false
set_option linter.unusedSectionVars false
namespace Go.AM
attribute [local instance] fnMaps
open Go Go.Proofs
set_option maxRecDepth 100000
@[irreducible] noncomputable def tyT:Trie TI:=@Env.ty trieMaps (@Env.of trieMaps Tryz.prog)
noncomputable def E:Env:=⟨Tryz.prog,fun k=>Trie.get tyT k,fun k=>Tryz.prog.funcs[k]?,orcOf [(21,.bool true)]⟩
theorem zbT:dh E 2=some none:=kq
theorem zbU:E.size 2=some 1:=kq
theorem zbV(cs:List Value)(o:Nat):jC E 2 cs o=cs[o]? :=kq
theorem eq_2(d:Nat)(a b:Int):eqV E (d+1) 2 (.int .i64 a) (.int .i64 b)=some (eqI a b):=kq
theorem zbW:dh E 3=some none:=kq
theorem zbX:E.size 3=some 1:=kq
theorem zbY(cs:List Value)(o:Nat):jC E 3 cs o=cs[o]? :=kq
theorem zbZ:zeroOf E 3=some (.int .i64 0):=kq
theorem eq_3(d:Nat)(a b:Int):eqV E (d+1) 3 (.int .i64 a) (.int .i64 b)=some (eqI a b):=kq
theorem zb0:dh E 4=some none:=kq
theorem zb1:E.size 4=some 1:=kq
theorem zb2:zeroOf E 4=some (.bool false):=kq
theorem eq_4(d:Nat)(a b:Bool):eqV E (d+1) 4 (.bool a) (.bool b)=some (a==b):=kq
theorem zb3:dh E 23=some (some 4):=kq
theorem zb4(r o:Nat):fieldAddrV E 23 (ptr r o) 0=some (ptr r (o+0)):=kq
theorem zb5(r o:Nat):fieldAddrV E 23 (ptr r o) 1=some (ptr r (o+1)):=kq
theorem zb6(r o:Nat):fieldAddrV E 23 (ptr r o) 2=some (ptr r (o+2)):=kq
theorem zb7(r o:Nat):fieldAddrV E 23 (ptr r o) 3=some (ptr r (o+3)):=kq
theorem eq_23(d:Nat)(xs ys:Array Value):eqV E (d+1) 23 (.agg xs) (.agg ys)=eqFields E (eqV E d) xs.toList ys.toList [(0,3),(1,3),(2,3),(3,3)]:=kq
theorem zb8:dh E 24=some none:=kq
theorem zb9:E.size 24=some 1:=kq
theorem zca(r o n c:Nat)(k:IntKind)(i:Int):indexAddrV E 24 (.slice (some ⟨r,o,none⟩) n c) (.int k i)=(at? i n).bind fun i=>some (ptr r (o+i*1)):=kq
theorem zcb(H:Heap)(r o n c:Nat)(lo hi mx:Option Value):sliceV E H 24 (.slice (some ⟨r,o,none⟩) n c) lo hi mx=CW E H 1 r o n c lo hi mx:=kq
theorem zcc(H:Heap)(a:Option Addr)(n c:Nat):builtinV E H .len [24] [.slice a n c]=some (.int .i64 n,H):=kq
theorem zcd(H:Heap)(s:Value)(a:Option Addr)(n c:Nat):builtinV E H .append [24,24] [s,.slice a n c]=(cellsOf H (n*1) (.slice a n c)).bind fun l=>appendV E H 56 s n l:=kq
theorem zce(H:Heap)(s:Value)(k:Nat)(new:List Value):appendV E H 56 s k new=appendT 1 8 H s k new:=kq
theorem zcf(T:Tr Value)(H:Heap)(len:Nat)(ps:List (Nat×Operand)):so E T H 24 len ps=bif (!Nat.ble (len*1) 10000000||false)then none else(evParts T (fun k=>some (k*1,1)) ps).bind fun ps=>(fillV (df [(.int .u64 0)] len) ps).bind fun l=>some (.slice (some ⟨H.next,0,none⟩) len len,H.newRow l):=kq
theorem zcg(d:Nat)(a:Option Addr)(n c n' c':Nat):eqV E (d+1) 24 (.slice none n c) (.slice a n' c')=some a.isNone:=kq
theorem zch:dh E 25=some none:=kq
theorem zci:E.size 25=some 1:=kq
theorem zcj:zeroOf E 25=some (.slice none 0 0):=kq
theorem zck(r o n c:Nat)(k:IntKind)(i:Int):indexAddrV E 25 (.slice (some ⟨r,o,none⟩) n c) (.int k i)=(at? i n).bind fun i=>some (ptr r (o+i*2)):=kq
theorem zcl(H:Heap)(r o n c:Nat)(lo hi mx:Option Value):sliceV E H 25 (.slice (some ⟨r,o,none⟩) n c) lo hi mx=CW E H 2 r o n c lo hi mx:=kq
theorem zcm(H:Heap)(a:Option Addr)(n c:Nat):builtinV E H .len [25] [.slice a n c]=some (.int .i64 n,H):=kq
theorem zcn(H:Heap)(s:Value)(a:Option Addr)(n c:Nat):builtinV E H .append [25,25] [s,.slice a n c]=(cellsOf H (n*2) (.slice a n c)).bind fun l=>appendV E H 85 s n l:=kq
theorem zco(H:Heap)(s:Value)(k:Nat)(new:List Value):appendV E H 85 s k new=appendT 2 16 H s k new:=kq
theorem zcp(T:Tr Value)(H:Heap)(len:Nat)(ps:List (Nat×Operand)):so E T H 25 len ps=bif (!Nat.ble (len*2) 10000000||false)then none else(evParts T (fun k=>some (k*2,2)) ps).bind fun ps=>(fillV (df [(.int .i64 0),(.int .i64 0)] len) ps).bind fun l=>some (.slice (some ⟨H.next,0,none⟩) len len,H.newRow l):=kq
theorem zcq(d:Nat)(a:Option Addr)(n c n' c':Nat):eqV E (d+1) 25 (.slice none n c) (.slice a n' c')=some a.isNone:=kq
theorem zcr:dh E 26=some none:=kq
theorem zcs(r o n c:Nat)(k:IntKind)(i:Int):indexAddrV E 26 (.slice (some ⟨r,o,none⟩) n c) (.int k i)=(at? i n).bind fun i=>some (ptr r (o+i*3)):=kq
theorem zct(H:Heap)(a:Option Addr)(n c:Nat):builtinV E H .len [26] [.slice a n c]=some (.int .i64 n,H):=kq
theorem zcu:dh E 28=some (some 10):=kq
theorem zcv(r o:Nat):fieldAddrV E 28 (ptr r o) 0=some (ptr r (o+0)):=kq
theorem zcw(r o:Nat):fieldAddrV E 28 (ptr r o) 1=some (ptr r (o+4)):=kq
theorem zcx(r o:Nat):fieldAddrV E 28 (ptr r o) 2=some (ptr r (o+5)):=kq
theorem zcy(r o:Nat):fieldAddrV E 28 (ptr r o) 3=some (ptr r (o+6)):=kq
theorem zcz(r o:Nat):fieldAddrV E 28 (ptr r o) 4=some (ptr r (o+7)):=kq
theorem zcA(r o:Nat):fieldAddrV E 28 (ptr r o) 5=some (ptr r (o+8)):=kq
theorem zcB(r o:Nat):fieldAddrV E 28 (ptr r o) 6=some (ptr r (o+9)):=kq
theorem zcC:dh E 30=some (some 5):=kq
theorem zcD(r o:Nat):fieldAddrV E 30 (ptr r o) 4=some (ptr r (o+4)):=kq
theorem eq_30(d:Nat)(xs ys:Array Value):eqV E (d+1) 30 (.agg xs) (.agg ys)=eqFields E (eqV E d) xs.toList ys.toList [(0,3),(1,3),(2,3),(3,3),(4,3)]:=kq
theorem zcE:dh E 33=some none:=kq
theorem zcF:E.size 33=some 1:=kq
theorem zcG:zeroOf E 33=some (.int .i64 0):=kq
theorem eq_33(d:Nat)(a b:Int):eqV E (d+1) 33 (.int .i64 a) (.int .i64 b)=some (eqI a b):=kq
theorem zcH:dh E 44=some none:=kq
theorem zcI(r o n c:Nat)(k:IntKind)(i:Int):indexAddrV E 44 (.slice (some ⟨r,o,none⟩) n c) (.int k i)=(at? i n).bind fun i=>some (ptr r (o+i*9)):=kq
theorem zcJ(H:Heap)(a:Option Addr)(n c:Nat):builtinV E H .len [44] [.slice a n c]=some (.int .i64 n,H):=kq
theorem zcK:dh E 45=some none:=kq
theorem zcL:E.size 45=some 1:=kq
theorem zcM:zeroOf E 45=some (.slice none 0 0):=kq
theorem zcN(r o n c:Nat)(k:IntKind)(i:Int):indexAddrV E 45 (.slice (some ⟨r,o,none⟩) n c) (.int k i)=(at? i n).bind fun i=>some (ptr r (o+i*1)):=kq
theorem zcO(H:Heap)(a:Option Addr)(n c:Nat):builtinV E H .len [45] [.slice a n c]=some (.int .i64 n,H):=kq
theorem zcP(H:Heap)(s:Value)(a:Option Addr)(n c:Nat):builtinV E H .append [45,45] [s,.slice a n c]=(cellsOf H (n*1) (.slice a n c)).bind fun l=>appendV E H 3 s n l:=kq
theorem zcQ(H:Heap)(s:Value)(k:Nat)(new:List Value):appendV E H 3 s k new=appendT 1 8 H s k new:=kq
theorem zcR(T:Tr Value)(H:Heap)(len:Nat)(ps:List (Nat×Operand)):so E T H 45 len ps=bif (!Nat.ble (len*1) 10000000||false)then none else(evParts T (fun k=>some (k*1,1)) ps).bind fun ps=>(fillV (df [(.int .i64 0)] len) ps).bind fun l=>some (.slice (some ⟨H.next,0,none⟩) len len,H.newRow l):=kq
theorem zcS(d:Nat)(a:Option Addr)(n c n' c':Nat):eqV E (d+1) 45 (.slice none n c) (.slice a n' c')=some a.isNone:=kq
theorem zcT:dh E 47=some (some 17):=kq
theorem zcU:E.size 47=some 17:=kq
theorem zcV:zeroOf E 47=some (.agg #[(.slice none 0 0),(.int .i64 0),(.int .i64 0),(.int .i64 0),(.int .i64 0),(.bool false),(.slice none 0 0),(.int .i64 0),(.slice none 0 0),(.slice none 0 0),(.slice none 0 0),(.slice none 0 0),(.int .i64 0),(.int .i64 0),(.int .i64 0),(.int .i64 0),(.int .i64 0)]):=kq
theorem zcW(r o:Nat):fieldAddrV E 47 (ptr r o) 0=some (ptr r (o+0)):=kq
theorem zcX(r o:Nat):fieldAddrV E 47 (ptr r o) 1=some (ptr r (o+1)):=kq
theorem zcY(r o:Nat):fieldAddrV E 47 (ptr r o) 2=some (ptr r (o+11)):=kq
theorem zcZ(r o:Nat):fieldAddrV E 47 (ptr r o) 3=some (ptr r (o+12)):=kq
theorem zc0(T:Tr Value)(ps:List (Nat×Operand)):gD E T 47 ps=(evParts T (fun k=>[(0,1),(1,10),(11,1),(12,5)][k]?) ps).bind fun ps=>(fillV [(.slice none 0 0),(.int .i64 0),(.int .i64 0),(.int .i64 0),(.int .i64 0),(.bool false),(.slice none 0 0),(.int .i64 0),(.slice none 0 0),(.slice none 0 0),(.slice none 0 0),(.slice none 0 0),(.int .i64 0),(.int .i64 0),(.int .i64 0),(.int .i64 0),(.int .i64 0)] ps).bind fun l=>some (.agg l.toArray):=kq
theorem zc1:dh E 49=some (some 19):=kq
theorem zc2:E.size 49=some 19:=kq
theorem zc3:zeroOf E 49=some (.agg #[(.slice none 0 0),(.int .i64 0),(.int .i64 0),(.int .i64 0),(.int .i64 0),(.bool false),(.slice none 0 0),(.int .i64 0),(.slice none 0 0),(.slice none 0 0),(.slice none 0 0),(.slice none 0 0),(.int .i64 0),(.int .i64 0),(.int .i64 0),(.int .i64 0),(.int .i64 0),(.int .i64 0),(.int .i64 0)]):=kq
theorem zc4(r o:Nat):fieldAddrV E 49 (ptr r o) 0=some (ptr r (o+0)):=kq
theorem zc5(r o:Nat):fieldAddrV E 49 (ptr r o) 1=some (ptr r (o+1)):=kq
theorem zc6(r o:Nat):fieldAddrV E 49 (ptr r o) 2=some (ptr r (o+11)):=kq
theorem zc7(r o:Nat):fieldAddrV E 49 (ptr r o) 3=some (ptr r (o+12)):=kq
theorem zc8(T:Tr Value)(ps:List (Nat×Operand)):gD E T 49 ps=(evParts T (fun k=>[(0,1),(1,10),(11,1),(12,5),(17,1),(18,1)][k]?) ps).bind fun ps=>(fillV [(.slice none 0 0),(.int .i64 0),(.int .i64 0),(.int .i64 0),(.int .i64 0),(.bool false),(.slice none 0 0),(.int .i64 0),(.slice none 0 0),(.slice none 0 0),(.slice none 0 0),(.slice none 0 0),(.int .i64 0),(.int .i64 0),(.int .i64 0),(.int .i64 0),(.int .i64 0),(.int .i64 0),(.int .i64 0)] ps).bind fun l=>some (.agg l.toArray):=kq
theorem zc9:dh E 56=some none:=kq
theorem zda(d:Nat)(a b:Int):eqV E (d+1) 56 (.int .u64 a) (.int .u64 b)=some (eqI a b):=kq
theorem zdb:dh E 58=some (some 3):=kq
theorem zdc:E.size 58=some 3:=kq
theorem zdd:zeroOf E 58=some (.agg #[(.bool false),(.int .i64 0),(.int .u64 0)]):=kq
theorem zde(r o:Nat):fieldAddrV E 58 (ptr r o) 0=some (ptr r (o+0)):=kq
theorem zdf(r o:Nat):fieldAddrV E 58 (ptr r o) 1=some (ptr r (o+1)):=kq
theorem zdg(r o:Nat):fieldAddrV E 58 (ptr r o) 2=some (ptr r (o+2)):=kq
theorem zdh:dh E 59=some none:=kq
theorem zdi:E.size 59=some 1:=kq
theorem zdj(r o n c:Nat)(k:IntKind)(i:Int):indexAddrV E 59 (.slice (some ⟨r,o,none⟩) n c) (.int k i)=(at? i n).bind fun i=>some (ptr r (o+i*3)):=kq
theorem zdk(H:Heap)(a:Option Addr)(n c:Nat):builtinV E H .len [59] [.slice a n c]=some (.int .i64 n,H):=kq
theorem zdl(H:Heap)(s:Value)(a:Option Addr)(n c:Nat):builtinV E H .append [59,59] [s,.slice a n c]=(cellsOf H (n*3) (.slice a n c)).bind fun l=>appendV E H 70 s n l:=kq
theorem zdm(H:Heap)(s:Value)(k:Nat)(new:List Value):appendV E H 70 s k new=appendT 3 56 H s k new:=kq
theorem zdn(T:Tr Value)(H:Heap)(len:Nat)(ps:List (Nat×Operand)):so E T H 59 len ps=bif (!Nat.ble (len*3) 10000000||false)then none else(evParts T (fun k=>some (k*3,3)) ps).bind fun ps=>(fillV (df [(.int .i64 0),(.slice none 0 0),(.slice none 0 0)] len) ps).bind fun l=>some (.slice (some ⟨H.next,0,none⟩) len len,H.newRow l):=kq
theorem zdo:dh E 60=some none:=kq
theorem zdp:E.size 60=some 1:=kq
theorem zdq(r o n c:Nat)(k:IntKind)(i:Int):indexAddrV E 60 (.slice (some ⟨r,o,none⟩) n c) (.int k i)=(at? i n).bind fun i=>some (ptr r (o+i*2)):=kq
theorem zdr(H:Heap)(a:Option Addr)(n c:Nat):builtinV E H .len [60] [.slice a n c]=some (.int .i64 n,H):=kq
theorem zds(H:Heap)(s:Value)(a:Option Addr)(n c:Nat):builtinV E H .append [60,60] [s,.slice a n c]=(cellsOf H (n*2) (.slice a n c)).bind fun l=>appendV E H 92 s n l:=kq
theorem zdt(H:Heap)(s:Value)(k:Nat)(new:List Value):appendV E H 92 s k new=appendT 2 16 H s k new:=kq
theorem zdu(T:Tr Value)(H:Heap)(len:Nat)(ps:List (Nat×Operand)):so E T H 60 len ps=bif (!Nat.ble (len*2) 10000000||false)then none else(evParts T (fun k=>some (k*2,2)) ps).bind fun ps=>(fillV (df [(.int .i64 0),(.int .i64 0)] len) ps).bind fun l=>some (.slice (some ⟨H.next,0,none⟩) len len,H.newRow l):=kq
theorem zdv(d:Nat)(a:Option Addr)(n c n' c':Nat):eqV E (d+1) 60 (.slice none n c) (.slice a n' c')=some a.isNone:=kq
theorem zdw:dh E 62=some (some 2):=kq
theorem zdx:E.size 62=some 2:=kq
theorem zdy:zeroOf E 62=some (.agg #[(.slice none 0 0),(.slice none 0 0)]):=kq
theorem zdz(r o:Nat):fieldAddrV E 62 (ptr r o) 0=some (ptr r (o+0)):=kq
theorem zdA(r o:Nat):fieldAddrV E 62 (ptr r o) 1=some (ptr r (o+1)):=kq
theorem zdB(T:Tr Value)(ps:List (Nat×Operand)):gD E T 62 ps=(evParts T (fun k=>[(0,1),(1,1)][k]?) ps).bind fun ps=>(fillV [(.slice none 0 0),(.slice none 0 0)] ps).bind fun l=>some (.agg l.toArray):=kq
theorem zdC:dh E 70=some (some 3):=kq
theorem zdD:E.size 70=some 3:=kq
theorem zdE:zeroOf E 70=some (.agg #[(.int .i64 0),(.slice none 0 0),(.slice none 0 0)]):=kq
theorem zdF(r o:Nat):fieldAddrV E 70 (ptr r o) 0=some (ptr r (o+0)):=kq
theorem zdG(r o:Nat):fieldAddrV E 70 (ptr r o) 1=some (ptr r (o+1)):=kq
theorem zdH(r o:Nat):fieldAddrV E 70 (ptr r o) 2=some (ptr r (o+2)):=kq
theorem zdI(T:Tr Value)(ps:List (Nat×Operand)):gD E T 70 ps=(evParts T (fun k=>[(0,1),(1,1),(2,1)][k]?) ps).bind fun ps=>(fillV [(.int .i64 0),(.slice none 0 0),(.slice none 0 0)] ps).bind fun l=>some (.agg l.toArray):=kq
theorem zdJ:dh E 85=some (some 2):=kq
theorem zdK:E.size 85=some 2:=kq
theorem zdL(cs:List Value)(o:Nat):jC E 85 cs o=(cut cs o 2).bind fun l=>some (.agg l.toArray):=kq
theorem zdM:zeroOf E 85=some (.agg #[(.int .i64 0),(.int .i64 0)]):=kq
theorem zdN(r o:Nat):fieldAddrV E 85 (ptr r o) 0=some (ptr r (o+0)):=kq
theorem zdO(r o:Nat):fieldAddrV E 85 (ptr r o) 1=some (ptr r (o+1)):=kq
theorem zdP(T:Tr Value)(ps:List (Nat×Operand)):gD E T 85 ps=(evParts T (fun k=>[(0,1),(1,1)][k]?) ps).bind fun ps=>(fillV [(.int .i64 0),(.int .i64 0)] ps).bind fun l=>some (.agg l.toArray):=kq
theorem zdQ(d:Nat)(xs ys:Array Value):eqV E (d+1) 85 (.agg xs) (.agg ys)=eqFields E (eqV E d) xs.toList ys.toList [(0,3),(1,3)]:=kq
theorem zdR:dh E 90=some none:=kq
theorem zdS:E.size 90=some 1:=kq
theorem zdT(r o n c:Nat)(k:IntKind)(i:Int):indexAddrV E 90 (.slice (some ⟨r,o,none⟩) n c) (.int k i)=(at? i n).bind fun i=>some (ptr r (o+i*1)):=kq
theorem zdU(H:Heap)(s:Value)(a:Option Addr)(n c:Nat):builtinV E H .append [90,90] [s,.slice a n c]=(cellsOf H (n*1) (.slice a n c)).bind fun l=>appendV E H 4 s n l:=kq
theorem zdV(H:Heap)(s:Value)(k:Nat)(new:List Value):appendV E H 4 s k new=appendT 1 1 H s k new:=kq
theorem zdW(T:Tr Value)(H:Heap)(len:Nat)(ps:List (Nat×Operand)):so E T H 90 len ps=bif (!Nat.ble (len*1) 10000000||false)then none else(evParts T (fun k=>some (k*1,1)) ps).bind fun ps=>(fillV (df [(.bool false)] len) ps).bind fun l=>some (.slice (some ⟨H.next,0,none⟩) len len,H.newRow l):=kq
theorem zdX:dh E 92=some (some 2):=kq
theorem zdY:E.size 92=some 2:=kq
theorem zdZ:zeroOf E 92=some (.agg #[(.int .i64 0),(.int .i64 0)]):=kq
theorem zd0(r o:Nat):fieldAddrV E 92 (ptr r o) 0=some (ptr r (o+0)):=kq
theorem zd1(r o:Nat):fieldAddrV E 92 (ptr r o) 1=some (ptr r (o+1)):=kq
theorem zd2(T:Tr Value)(ps:List (Nat×Operand)):gD E T 92 ps=(evParts T (fun k=>[(0,1),(1,1)][k]?) ps).bind fun ps=>(fillV [(.int .i64 0),(.int .i64 0)] ps).bind fun l=>some (.agg l.toArray):=kq
theorem Pp(d:Nat)(xs ys:Array Value):eqV E (d+1) 92 (.agg xs) (.agg ys)=eqFields E (eqV E d) xs.toList ys.toList [(0,3),(1,2)]:=kq
theorem zd3:dh E 102=some (some 9):=kq
theorem zd4(d:Nat)(xs ys:Array Value):eqV E (d+1) 102 (.agg xs) (.agg ys)=eqFields E (eqV E d) xs.toList ys.toList [(0,33),(1,3),(2,92),(4,56),(5,4),(6,3),(7,3),(8,3)]:=kq
theorem zd5:dh E 112=some none:=kq
theorem zd6:E.size 112=some 1:=kq
theorem zd7:zeroOf E 112=some (.map none):=kq
theorem zd8:dh E 117=some (some 5):=kq
theorem zd9:E.size 117=some 5:=kq
theorem zea:zeroOf E 117=some (.agg #[(.int .i64 0),(.int .i64 0),(.int .i64 0),(.bool false),(.int .i64 0)]):=kq
theorem zeb(r o:Nat):fieldAddrV E 117 (ptr r o) 0=some (ptr r (o+0)):=kq
theorem zec(r o:Nat):fieldAddrV E 117 (ptr r o) 1=some (ptr r (o+1)):=kq
theorem zed(r o:Nat):fieldAddrV E 117 (ptr r o) 2=some (ptr r (o+2)):=kq
theorem zee(r o:Nat):fieldAddrV E 117 (ptr r o) 3=some (ptr r (o+3)):=kq
theorem zef(r o:Nat):fieldAddrV E 117 (ptr r o) 4=some (ptr r (o+4)):=kq
theorem zeg(T:Tr Value)(ps:List (Nat×Operand)):gD E T 117 ps=(evParts T (fun k=>[(0,1),(1,1),(2,1),(3,1),(4,1)][k]?) ps).bind fun ps=>(fillV [(.int .i64 0),(.int .i64 0),(.int .i64 0),(.bool false),(.int .i64 0)] ps).bind fun l=>some (.agg l.toArray):=kq
theorem zeh(r o:Nat):fieldAddrV E 140 (ptr r o) 0=some (ptr r (o+0)):=kq
theorem zei(r o:Nat):fieldAddrV E 140 (ptr r o) 1=some (ptr r (o+2)):=kq
theorem zej(r o:Nat):fieldAddrV E 140 (ptr r o) 2=some (ptr r (o+4)):=kq
theorem zek(r o:Nat):fieldAddrV E 140 (ptr r o) 3=some (ptr r (o+5)):=kq
theorem zel(r o:Nat):fieldAddrV E 140 (ptr r o) 4=some (ptr r (o+6)):=kq
theorem zem(T:Tr Value)(ps:List (Nat×Operand)):gD E T 140 ps=(evParts T (fun k=>[(0,2),(2,2),(4,1),(5,1),(6,1)][k]?) ps).bind fun ps=>(fillV [(.slice none 0 0),(.slice none 0 0),(.slice none 0 0),(.slice none 0 0),(.slice none 0 0),(.slice none 0 0),(.bool false)] ps).bind fun l=>some (.agg l.toArray):=kq
theorem zen:dh E 161=some (some 6):=kq
theorem zeo:E.size 161=some 6:=kq
theorem zep:zeroOf E 161=some (.agg #[(.int .i64 0),(.int .i64 0),(.int .i64 0),(.int .i64 0),(.int .i64 0),(.int .i64 0)]):=kq
theorem zeq(cs:Array Value)(k:IntKind)(i:Int):indexV E 161 (.agg cs) (.int k i)=(at? i 3).bind fun i=>jC E 85 cs.toList (i*2):=kq
theorem zer(T:Tr Value)(ps:List (Nat×Operand)):gD E T 161 ps=(evParts T (fun k=>some (k*2,2)) ps).bind fun ps=>(fillV [(.int .i64 0),(.int .i64 0),(.int .i64 0),(.int .i64 0),(.int .i64 0),(.int .i64 0)] ps).bind fun l=>some (.agg l.toArray):=kq
theorem zes:dh E 167=some none:=kq
theorem zet:E.size 167=some 1:=kq
theorem Om(d r o:Nat):eqV E (d+1) 167 (ptr r o) (.pointer none)=some false:=kq
theorem zeu:dh E 168=some none:=kq
theorem zev:E.size 168=some 1:=kq
theorem zew(r o:Nat):fieldAddrV E 170 (ptr r o) 0=some (ptr r (o+0)):=kq
theorem zex(r o:Nat):fieldAddrV E 170 (ptr r o) 1=some (ptr r (o+10)):=kq
theorem zey(r o:Nat):fieldAddrV E 170 (ptr r o) 2=some (ptr r (o+11)):=kq
theorem zez(r o:Nat):fieldAddrV E 170 (ptr r o) 3=some (ptr r (o+12)):=kq
theorem zeA(T:Tr Value)(ps:List (Nat×Operand)):gD E T 170 ps=(evParts T (fun k=>[(0,10),(10,1),(11,1),(12,1)][k]?) ps).bind fun ps=>(fillV [(.int .i64 0),(.int .i64 0),(.int .i64 0),(.int .i64 0),(.bool false),(.slice none 0 0),(.int .i64 0),(.slice none 0 0),(.slice none 0 0),(.slice none 0 0),(.pointer none),(.slice none 0 0),(.map none)] ps).bind fun l=>some (.agg l.toArray):=kq
theorem zeB:E.size 210=some 4:=kq
theorem zeC:zeroOf E 210=some (.agg #[(.int .i64 0),(.int .i64 0),(.int .i64 0),(.int .i64 0)]):=kq
theorem zeD(r o:Nat)(k:IntKind)(i:Int):indexAddrV E 210 (ptr r o) (.int k i)=(at? i 2).bind fun i=>some (ptr r (o+i*2)):=kq
theorem zeE(T:Tr Value)(ps:List (Nat×Operand)):gD E T 210 ps=(evParts T (fun k=>some (k*2,2)) ps).bind fun ps=>(fillV [(.int .i64 0),(.int .i64 0),(.int .i64 0),(.int .i64 0)] ps).bind fun l=>some (.agg l.toArray):=kq
theorem zeF(r o n c:Nat)(k:IntKind)(i:Int):indexAddrV E 211 (.slice (some ⟨r,o,none⟩) n c) (.int k i)=(at? i n).bind fun i=>some (ptr r (o+i*1)):=kq
theorem zeG(H:Heap)(a:Option Addr)(n c:Nat):builtinV E H .len [211] [.slice a n c]=some (.int .i64 n,H):=kq
theorem zeH(T:Tr Value)(H:Heap)(len:Nat)(ps:List (Nat×Operand)):so E T H 211 len ps=bif (!Nat.ble (len*1) 10000000||false)then none else(evParts T (fun k=>some (k*1,1)) ps).bind fun ps=>(fillV (df [.nilFunc] len) ps).bind fun l=>some (.slice (some ⟨H.next,0,none⟩) len len,H.newRow l):=kq
theorem zeI:dh E 214=some none:=kq
theorem zeJ:dh E 215=some (some 5):=kq
theorem zeK:E.size 215=some 5:=kq
theorem zeL:zeroOf E 215=some (.agg #[(.int .i64 0),(.int .i64 0),(.int .i64 0),(.int .i64 0),(.int .i64 0)]):=kq
theorem zeM(r o:Nat)(k:IntKind)(i:Int):indexAddrV E 215 (ptr r o) (.int k i)=(at? i 5).bind fun i=>some (ptr r (o+i*1)):=kq
theorem zeN(T:Tr Value)(ps:List (Nat×Operand)):gD E T 215 ps=(evParts T (fun k=>some (k*1,1)) ps).bind fun ps=>(fillV [(.int .i64 0),(.int .i64 0),(.int .i64 0),(.int .i64 0),(.int .i64 0)] ps).bind fun l=>some (.agg l.toArray):=kq
theorem zeO:E.size 217=some 3:=kq
theorem zeP(cs:List Value)(o:Nat):jC E 217 cs o=(cut cs o 3).bind fun l=>some (.agg l.toArray):=kq
theorem zeQ:zeroOf E 217=some (.agg #[(.int .i64 0),(.int .i64 0),(.int .i64 0)]):=kq
theorem zeR(r o:Nat):fieldAddrV E 217 (ptr r o) 0=some (ptr r (o+0)):=kq
theorem zeS(r o:Nat):fieldAddrV E 217 (ptr r o) 1=some (ptr r (o+1)):=kq
theorem zeT(r o:Nat):fieldAddrV E 217 (ptr r o) 2=some (ptr r (o+2)):=kq
theorem zeU(T:Tr Value)(ps:List (Nat×Operand)):gD E T 217 ps=(evParts T (fun k=>[(0,1),(1,1),(2,1)][k]?) ps).bind fun ps=>(fillV [(.int .i64 0),(.int .i64 0),(.int .i64 0)] ps).bind fun l=>some (.agg l.toArray):=kq
theorem zeV:dh E 218=some (some 15):=kq
theorem zeW:E.size 218=some 15:=kq
theorem zeX:zeroOf E 218=some (.agg #[(.int .i64 0),(.int .i64 0),(.int .i64 0),(.int .i64 0),(.int .i64 0),(.int .i64 0),(.int .i64 0),(.int .i64 0),(.int .i64 0),(.int .i64 0),(.int .i64 0),(.int .i64 0),(.int .i64 0),(.int .i64 0),(.int .i64 0)]):=kq
theorem zeY(cs:Array Value)(k:IntKind)(i:Int):indexV E 218 (.agg cs) (.int k i)=(at? i 5).bind fun i=>jC E 217 cs.toList (i*3):=kq
theorem zeZ(T:Tr Value)(ps:List (Nat×Operand)):gD E T 218 ps=(evParts T (fun k=>some (k*3,3)) ps).bind fun ps=>(fillV [(.int .i64 0),(.int .i64 0),(.int .i64 0),(.int .i64 0),(.int .i64 0),(.int .i64 0),(.int .i64 0),(.int .i64 0),(.int .i64 0),(.int .i64 0),(.int .i64 0),(.int .i64 0),(.int .i64 0),(.int .i64 0),(.int .i64 0)] ps).bind fun l=>some (.agg l.toArray):=kq
theorem ze0:dh E 290=some none:=kq
theorem ze1(r o:Nat):fieldAddrV E 292 (ptr r o) 0=some (ptr r (o+0)):=kq
theorem ze2(r o:Nat):fieldAddrV E 292 (ptr r o) 1=some (ptr r (o+2)):=kq
theorem ze3(r o:Nat):fieldAddrV E 292 (ptr r o) 2=some (ptr r (o+3)):=kq
theorem ze4(r o:Nat):fieldAddrV E 292 (ptr r o) 3=some (ptr r (o+4)):=kq
theorem ze5(r o:Nat):fieldAddrV E 292 (ptr r o) 4=some (ptr r (o+5)):=kq
theorem ze6(r o:Nat):fieldAddrV E 292 (ptr r o) 5=some (ptr r (o+6)):=kq
theorem ze7(r o:Nat):fieldAddrV E 292 (ptr r o) 6=some (ptr r (o+7)):=kq
theorem ze8(r o:Nat):fieldAddrV E 292 (ptr r o) 7=some (ptr r (o+8)):=kq
theorem ze9(r o:Nat):fieldAddrV E 292 (ptr r o) 8=some (ptr r (o+9)):=kq
theorem zfa(r o:Nat):fieldAddrV E 292 (ptr r o) 9=some (ptr r (o+10)):=kq
theorem zfb(r o:Nat):fieldAddrV E 292 (ptr r o) 10=some (ptr r (o+11)):=kq
theorem zfc(r o:Nat):fieldAddrV E 292 (ptr r o) 11=some (ptr r (o+12)):=kq
theorem zfd(T:Tr Value)(ps:List (Nat×Operand)):gD E T 292 ps=(evParts T (fun k=>[(0,2),(2,1),(3,1),(4,1),(5,1),(6,1),(7,1),(8,1),(9,1),(10,1),(11,1),(12,1)][k]?) ps).bind fun ps=>(fillV [(.slice none 0 0),(.slice none 0 0),(.int .i64 0),(.int .i64 0),(.slice none 0 0),(.slice none 0 0),(.slice none 0 0),(.slice none 0 0),(.int .i64 0),(.slice none 0 0),(.map none),(.int .i64 0),(.slice none 0 0)] ps).bind fun l=>some (.agg l.toArray):=kq
theorem zfe(r o:Nat):fieldAddrV E 300 (ptr r o) 0=some (ptr r (o+0)):=kq
theorem zff(r o:Nat):fieldAddrV E 300 (ptr r o) 1=some (ptr r (o+1)):=kq
theorem zfg(T:Tr Value)(ps:List (Nat×Operand)):gD E T 300 ps=(evParts T (fun k=>[(0,1),(1,1)][k]?) ps).bind fun ps=>(fillV [(.bool false),(.slice none 0 0)] ps).bind fun l=>some (.agg l.toArray):=kq
theorem zfh(r o n c:Nat)(k:IntKind)(i:Int):indexAddrV E 313 (.slice (some ⟨r,o,none⟩) n c) (.int k i)=(at? i n).bind fun i=>some (ptr r (o+i*1)):=kq
theorem zfi(H:Heap)(a:Option Addr)(n c:Nat):builtinV E H .len [313] [.slice a n c]=some (.int .i64 n,H):=kq
theorem zfj(H:Heap)(s:Value)(a:Option Addr)(n c:Nat):builtinV E H .append [313,313] [s,.slice a n c]=(cellsOf H (n*1) (.slice a n c)).bind fun l=>appendV E H 60 s n l:=kq
theorem zfk(H:Heap)(s:Value)(k:Nat)(new:List Value):appendV E H 60 s k new=appendT 1 24 H s k new:=kq
theorem zfl(T:Tr Value)(H:Heap)(len:Nat)(ps:List (Nat×Operand)):so E T H 313 len ps=bif (!Nat.ble (len*1) 10000000||false)then none else(evParts T (fun k=>some (k*1,1)) ps).bind fun ps=>(fillV (df [(.slice none 0 0)] len) ps).bind fun l=>some (.slice (some ⟨H.next,0,none⟩) len len,H.newRow l):=kq
theorem zfm:E.size 350=some 8:=kq
theorem zfn:zeroOf E 350=some (.agg #[(.int .i64 0),(.int .i64 0),(.int .i64 0),(.int .i64 0),(.bool false),(.int .i64 0),(.int .i64 0),(.bool false)]):=kq
theorem zfo(r o:Nat):fieldAddrV E 350 (ptr r o) 0=some (ptr r (o+0)):=kq
theorem zfp(r o:Nat):fieldAddrV E 350 (ptr r o) 2=some (ptr r (o+6)):=kq
theorem zfq(r o:Nat):fieldAddrV E 350 (ptr r o) 3=some (ptr r (o+7)):=kq
theorem zfr(T:Tr Value)(ps:List (Nat×Operand)):gD E T 350 ps=(evParts T (fun k=>[(0,1),(1,5),(6,1),(7,1)][k]?) ps).bind fun ps=>(fillV [(.int .i64 0),(.int .i64 0),(.int .i64 0),(.int .i64 0),(.bool false),(.int .i64 0),(.int .i64 0),(.bool false)] ps).bind fun l=>some (.agg l.toArray):=kq
theorem zfs(H:Heap)(k:IntKind)(n:Int):qu E H 2 56 (.int k n)=gC .u64 n:=kq
theorem zft(H:Heap)(k:IntKind)(n:Int):qu E H 3 56 (.int k n)=gC .u64 n:=kq
theorem zfu(H:Heap)(k:IntKind)(n:Int):qu E H 3 171 (.int k n)=gC .u64 n:=kq
theorem zfv(H:Heap)(k:IntKind)(n:Int):qu E H 56 2 (.int k n)=gC .i64 n:=kq
theorem zfw(H:Heap)(k:IntKind)(n:Int):qu E H 56 3 (.int k n)=gC .i64 n:=kq
theorem zfx(H:Heap)(k:IntKind)(n:Int):qu E H 171 3 (.int k n)=gC .i64 n:=kq
set_option linter.defProp false
def st:=And.intro (And.intro (And.intro (And.intro (And.intro (And.intro (And.intro @zbT (And.intro @zbU @zbV)) (And.intro (And.intro @eq_2 @zbW) (And.intro @zbX @zbY))) (And.intro (And.intro @zbZ (And.intro @eq_3 @zb0)) (And.intro (And.intro @zb1 @zb2) (And.intro @eq_4 @zb3)))) (And.intro (And.intro (And.intro @zb4 (And.intro @zb5 @zb6)) (And.intro (And.intro @zb7 @zb8) (And.intro @zb9 @zca))) (And.intro (And.intro @zcb (And.intro @zcc @zcd)) (And.intro (And.intro @zce @zcf) (And.intro @zcg @zch))))) (And.intro (And.intro (And.intro (And.intro @zci (And.intro @zcj @zck)) (And.intro (And.intro @zcl @zcm) (And.intro @zcn @zco))) (And.intro (And.intro @zcp (And.intro @zcq @zcr)) (And.intro (And.intro @zcs @zct) (And.intro @zcu @zcv)))) (And.intro (And.intro (And.intro @zcw (And.intro @zcx @zcy)) (And.intro (And.intro @zcz @zcA) (And.intro @zcB @zcC))) (And.intro (And.intro (And.intro @zcD @zcE) (And.intro @zcF @zcG)) (And.intro (And.intro @zcH @zcI) (And.intro @zcJ @zcK)))))) (And.intro (And.intro (And.intro (And.intro (And.intro @zcL (And.intro @zcM @zcN)) (And.intro (And.intro @zcO @zcP) (And.intro @zcQ @zcR))) (And.intro (And.intro @zcS (And.intro @zcT @zcU)) (And.intro (And.intro @zcV @zcW) (And.intro @zcX @zcY)))) (And.intro (And.intro (And.intro @zcZ (And.intro @zc0 @zc1)) (And.intro (And.intro @zc2 @zc3) (And.intro @zc4 @zc5))) (And.intro (And.intro (And.intro @zc6 @zc7) (And.intro @zc8 @zc9)) (And.intro (And.intro @zdb @zdc) (And.intro @zdd @zde))))) (And.intro (And.intro (And.intro (And.intro @zdf (And.intro @zdg @zdh)) (And.intro (And.intro @zdi @zdj) (And.intro @zdk @zdl))) (And.intro (And.intro @zdm (And.intro @zdn @zdo)) (And.intro (And.intro @zdp @zdq) (And.intro @zdr @zds)))) (And.intro (And.intro (And.intro @zdt (And.intro @zdu @zdv)) (And.intro (And.intro @zdw @zdx) (And.intro @zdy @zdz))) (And.intro (And.intro (And.intro @zdA @zdB) (And.intro @zdC @zdD)) (And.intro (And.intro @zdE @zdF) (And.intro @zdG @zdH))))))) (And.intro (And.intro (And.intro (And.intro (And.intro (And.intro @zdI (And.intro @zdJ @zdK)) (And.intro (And.intro @zdL @zdM) (And.intro @zdN @zdO))) (And.intro (And.intro @zdP (And.intro @zdQ @zdR)) (And.intro (And.intro @zdS @zdT) (And.intro @zdU @zdV)))) (And.intro (And.intro (And.intro @zdW (And.intro @zdX @zdY)) (And.intro (And.intro @zdZ @zd0) (And.intro @zd1 @zd2))) (And.intro (And.intro @Pp (And.intro @zd3 @zd5)) (And.intro (And.intro @zd6 @zd7) (And.intro @zd8 @zd9))))) (And.intro (And.intro (And.intro (And.intro @zea (And.intro @zeb @zec)) (And.intro (And.intro @zed @zee) (And.intro @zef @zeg))) (And.intro (And.intro @zeh (And.intro @zei @zej)) (And.intro (And.intro @zek @zel) (And.intro @zem @zen)))) (And.intro (And.intro (And.intro @zeo (And.intro @zep @zeq)) (And.intro (And.intro @zer @zes) (And.intro @zet @Om))) (And.intro (And.intro (And.intro @zeu @zev) (And.intro @zew @zex)) (And.intro (And.intro @zey @zez) (And.intro @zeA @zeB)))))) (And.intro (And.intro (And.intro (And.intro (And.intro @zeC (And.intro @zeD @zeE)) (And.intro (And.intro @zeF @zeG) (And.intro @zeH @zeI))) (And.intro (And.intro @zeJ (And.intro @zeK @zeL)) (And.intro (And.intro @zeM @zeN) (And.intro @zeO @zeP)))) (And.intro (And.intro (And.intro @zeQ (And.intro @zeR @zeS)) (And.intro (And.intro @zeT @zeU) (And.intro @zeV @zeW))) (And.intro (And.intro (And.intro @zeX @zeY) (And.intro @zeZ @ze0)) (And.intro (And.intro @ze1 @ze2) (And.intro @ze3 @ze4))))) (And.intro (And.intro (And.intro (And.intro @ze5 (And.intro @ze6 @ze7)) (And.intro (And.intro @ze8 @ze9) (And.intro @zfa @zfb))) (And.intro (And.intro @zfc (And.intro @zfd @zfe)) (And.intro (And.intro @zff @zfg) (And.intro @zfh @zfi)))) (And.intro (And.intro (And.intro @zfj (And.intro @zfk @zfl)) (And.intro (And.intro @zfm @zfn) (And.intro @zfo @zfp))) (And.intro (And.intro (And.intro @zfq @zfr) (And.intro @zfs @zft)) (And.intro (And.intro @zfu @zfv) (And.intro @zfw @zfx)))))))
end Go.AM
