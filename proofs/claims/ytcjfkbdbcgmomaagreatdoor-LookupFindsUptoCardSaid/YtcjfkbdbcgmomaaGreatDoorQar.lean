/-
  By an AI agent.
-/
import Derived.Test.YtcjfkbdbcgmomaaGreatDoorProg
import Derived.Test.YtcjfkbdbcgmomaaGreatDoorQaq
set_option linter.unusedSimpArgs false
set_option linter.unusedVariables false
namespace Go.CK
open Go.AM Go.Proofs
instance {n:Nat}:OfNat Opd n:=⟨.t n⟩
abbrev rR(k:List Nat)(o:List ROp):RC:=.reg false k o
abbrev cF(n:Nat)(a:List Opd):RX:=.call (.c (.fn (.func n) [] [])) a
abbrev oQ(d:Nat)(x:RX):ROp:=⟨some d,none,x⟩
abbrev oG(d g:Nat)(b:Bool)(x:RX):ROp:=⟨some d,some (g,b),x⟩
abbrev oN(x:RX):ROp:=⟨none,none,x⟩
abbrev qM(d a:Nat):ROp:=oQ d (.mov (.t a))
abbrev qK(d a:Nat):ROp:=oQ d (.qu (.t a))
abbrev qF(d k a:Nat):ROp:=oQ d (.aL k (.t a))
abbrev qL(d a:Nat):ROp:=oQ d (.load false 1 (.t a))
abbrev qA(d z a:Nat):ROp:=oQ d (.load true z (.t a))
abbrev qI(d z a b:Nat):ROp:=oQ d (.idx z (.t a) (.t b))
abbrev SP(P:Program)(b:Bool)(ab:List AV)(bs:List Box)(c:RC)(rs:List eP)(Q:AV->List Box->Prop):Prop:=(⟨params 0 ab,bs,bs.length⟩:St).fo b λs=>c.gp P b s (OG rs Q)
theorem oZ{P:Program}{f:FuncId}{fn:Func}{c:Code}{rc:RC}{keeps:List (Nat×List Nat)}{solo:List (Nat×Nat)}{rs:List eP}{fb:Bool}{ab:List AV}{bs:List Box}{Q:AV->List Box->Prop}(hf:P.funcs[f]? =some fn)(hb:fn.body=some c)(hn:ab.length<=fn.ntmps)(h:SP P fb ab bs rc rs Q)(hm:P.follows .mixedOrders=true:=by kernel_rfl)(hc:eW P fn.ntmps keeps solo true c=some rc:=by kernel_rfl)(hr:mX P fn.results.toList=some rs:=by kernel_rfl):AM.Sem P f ab bs Q:=Sem.nrm (Sem.of hf hb hm hc hr hn (Np h))
variable{ab:List AV}{bs:List Box}{Q:AV->List Box->Prop}
def ix:RC:=
 (.seq (rR [0,1] [oQ 4 (.mov (.c (.bool false)))]) (.seq (rR [4] [qM 5 0,qM 6 1,oQ 7 (cF 177 [5,6]),oQ 8 (.bin .geq 7 (.c (.int .i64 0))),qM 4 8]) .ret))
theorem iM(hn:ab.length<=9)(h:SP Tryz.prog true ab bs ix [.slot 4] Q):AM.Sem Tryz.prog 127 ab bs Q:=
 oZ (keeps:=[(0,[0,1]),(1,[4])]) (solo:=[]) Tryz.func127 rfl hn h
def kN:RC:=
 (.seq (rR [0,1] [oQ 4 (.mov (.c (.int .i64 0)))]) (.seq (.seq (rR [0,1,7,8] [qM 6 0,oQ 7 (.len false 6),oQ 8 (.mov (.c (.int .i64 0)))]) (.block 0 (.loop (.seq (rR [0,1,7,8,9] [oQ 9 (.bin .lss 8 7)]) (.seq (.cond 9 .skip (.exit 0)) (.seq (.block 1 (.seq (rR [0,1,5,7,8] [qM 10 8,qM 5 10]) (.seq (rR [0,1,5,7,8,16] [qM 11 1,qM 12 0,qM 13 5,qI 14 1 12 13,qL 15 14,oQ 16 (.bin .eql 11 15)]) (.cond 16 (.seq (rR [4] [qM 17 5,qM 4 17]) .ret) .skip)))) (rR [0,1,7,8] [oQ 18 (.bin .add 8 (.c (.int .i64 1))),qM 8 18]))))))) (.seq (rR [4] [oQ 4 (.mov (.c (.int .i64 (-1))))]) .ret)))
theorem k7(hn:ab.length<=19)(h:SP Tryz.prog true ab bs kN [.slot 4] Q):AM.Sem Tryz.prog 177 ab bs Q:=
 oZ (keeps:=[(0,[0,1]),(1,[0,1,7,8]),(2,[0,1,7,8,9]),(3,[0,1,5,7,8]),(4,[0,1,5,7,8,16]),(5,[4]),(6,[0,1,7,8]),(7,[4])]) (solo:=[]) Tryz.func177 rfl hn h
def kO:RC:=
 (.seq (rR [0,1] [oQ 4 (.mov (.c (.bool false)))]) (.seq (.seq (rR [0,1,10] [qM 6 0,oQ 7 (.len false 6),qM 8 1,oQ 9 (.len false 8),oQ 10 (.bin .neq 7 9)]) (.cond 10 (.seq (rR [4] [oQ 4 (.mov (.c (.bool false)))]) .ret) .skip)) (.seq (.seq (rR [0,1,12,13] [qM 11 0,oQ 12 (.len false 11),oQ 13 (.mov (.c (.int .i64 0)))]) (.block 0 (.loop (.seq (rR [0,1,12,13,14] [oQ 14 (.bin .lss 13 12)]) (.seq (.cond 14 .skip (.exit 0)) (.seq (.block 1 (.seq (rR [0,1,5,12,13] [qM 15 13,qM 5 15]) (.seq (.reg true [0,1,12,13,24] [qM 16 0,qM 17 5,qI 18 1 16 17,qL 19 18,qM 20 1,qM 21 5,qI 22 1 20 21,qL 23 22,oQ 24 (.bin .neq 19 23)]) (.cond 24 (.seq (rR [4] [oQ 4 (.mov (.c (.bool false)))]) .ret) .skip)))) (rR [0,1,12,13] [oQ 25 (.bin .add 13 (.c (.int .i64 1))),qM 13 25]))))))) (.seq (rR [4] [oQ 4 (.mov (.c (.bool true)))]) .ret))))
theorem k8(hn:ab.length<=26)(h:SP Tryz.prog true ab bs kO [.slot 4] Q):AM.Sem Tryz.prog 131 ab bs Q:=
 oZ (keeps:=[(0,[0,1]),(1,[0,1,10]),(2,[4]),(3,[0,1,12,13]),(4,[0,1,12,13,14]),(5,[0,1,5,12,13]),(6,[0,1,12,13,24]),(7,[4]),(8,[0,1,12,13]),(9,[4])]) (solo:=[]) Tryz.func131 rfl hn h
def e5:RC:=
 (.seq (rR [0,1] [oQ 4 (.mov (.c (.bool false)))]) (.seq (rR [4] [qM 5 0,qM 6 1,oQ 7 (cF 109 [5,6]),oQ 8 (.bin .geq 7 (.c (.int .i64 0))),qM 4 8]) .ret))
def gu:RC:=
 (.seq (rR [0,1] [oQ 4 (.mov (.c (.int .i64 0)))]) (.seq (.seq (rR [0,1,7,8] [qM 6 0,oQ 7 (.len false 6),oQ 8 (.mov (.c (.int .i64 0)))]) (.block 0 (.loop (.seq (rR [0,1,7,8,9] [oQ 9 (.bin .lss 8 7)]) (.seq (.cond 9 .skip (.exit 0)) (.seq (.block 1 (.seq (rR [0,1,5,7,8] [qM 10 8,qM 5 10]) (.seq (rR [0,1,5,7,8,16] [qM 11 1,qM 12 0,qM 13 5,qI 14 1 12 13,qL 15 14,oQ 16 (.dM 11 [15])]) (.cond 16 (.seq (rR [4] [qM 17 5,qM 4 17]) .ret) .skip)))) (rR [0,1,7,8] [oQ 18 (.bin .add 8 (.c (.int .i64 1))),qM 8 18]))))))) (.seq (rR [4] [oQ 4 (.mov (.c (.int .i64 (-1))))]) .ret)))
def wV:RC:=
 (.seq (rR [0] [oQ 2 (.mov (.c (.int .i64 0)))]) (.seq (rR [0,3] [oQ 3 (.mov (.c (.int .i64 0)))]) (.seq (.seq (rR [3,6,7,8] [qM 6 0,oQ 7 (.len false 6),oQ 8 (.mov (.c (.int .i64 0)))]) (.block 0 (.loop (.seq (rR [3,6,7,8,9] [oQ 9 (.bin .lss 8 7)]) (.seq (.cond 9 .skip (.exit 0)) (.seq (.block 1 (.seq (rR [3,5,6,7,8] [qI 10 1 6 8,qL 11 10,qM 5 11]) (.seq (rR [3,5,6,7,8,14] [qM 12 5,qM 13 3,oQ 14 (.bin .neq 12 13)]) (.cond 14 (.seq (rR [2] [qM 15 5,qM 2 15]) .ret) .skip)))) (rR [3,6,7,8] [oQ 16 (.bin .add 8 (.c (.int .i64 1))),qM 8 16]))))))) (.seq (rR [2] [qM 17 3,qM 2 17]) .ret))))
theorem w9(hn:ab.length<=18)(h:SP Tryz.prog true ab bs wV [.slot 2] Q):AM.Sem Tryz.prog 240 ab bs Q:=
 oZ (keeps:=[(0,[0]),(1,[0,3]),(2,[3,6,7,8]),(3,[3,6,7,8,9]),(4,[3,5,6,7,8]),(5,[3,5,6,7,8,14]),(6,[2]),(7,[3,6,7,8]),(8,[2])]) (solo:=[]) Tryz.func240 rfl hn h
def mP:RC:=
 (.seq (rR [0,1] [oQ 4 (.mov (.c (.int .i64 0)))]) (.seq (rR [0,1,5] [qM 7 0,oQ 8 (cF 254 [7]),qM 5 8]) (.seq (rR [0,1,5,6] [qM 9 1,oQ 10 (cF 254 [9]),qM 6 10]) (.seq (.seq (rR [0,1,6,11] [qM 11 5]) (.cond 11 (.seq (.seq (rR [12] [qM 12 6]) (.cond 12 (.seq (rR [4] [oQ 4 (.mov (.c (.int .i64 0)))]) .ret) .skip)) (.seq (rR [4] [oQ 4 (.mov (.c (.int .i64 (-1))))]) .ret)) .skip)) (.seq (.seq (rR [0,1,13] [qM 13 6]) (.cond 13 (.seq (rR [4] [oQ 4 (.mov (.c (.int .i64 1)))]) .ret) .skip)) (.seq (.seq (rR [0,1,16] [qM 14 0,qM 15 1,oQ 16 (.bin .lss 14 15)]) (.cond 16 (.seq (rR [4] [oQ 4 (.mov (.c (.int .i64 (-1))))]) .ret) .skip)) (.seq (.seq (rR [19] [qM 17 0,qM 18 1,oQ 19 (.bin .gtr 17 18)]) (.cond 19 (.seq (rR [4] [oQ 4 (.mov (.c (.int .i64 1)))]) .ret) .skip)) (.seq (rR [4] [oQ 4 (.mov (.c (.int .i64 0)))]) .ret))))))))
theorem mR(hn:ab.length<=20)(h:SP Tryz.prog true ab bs mP [.slot 4] Q):AM.Sem Tryz.prog 238 ab bs Q:=
 oZ (keeps:=[(0,[0,1]),(1,[0,1,5]),(2,[0,1,5,6]),(3,[0,1,6,11]),(4,[12]),(5,[4]),(6,[4]),(7,[0,1,13]),(8,[4]),(9,[0,1,16]),(10,[4]),(11,[19]),(12,[4]),(13,[4])]) (solo:=[]) Tryz.func238 rfl hn h
def pq:RC:=
 (.seq (rR [0,1] [oQ 4 (.mov (.c (.int .i64 0)))]) (.seq (rR [0,1,5] [qM 7 0,oQ 8 (cF 152 [7]),qM 5 8]) (.seq (rR [0,1,5,6] [qM 9 1,oQ 10 (cF 152 [9]),qM 6 10]) (.seq (.seq (rR [0,1,6,11] [qM 11 5]) (.cond 11 (.seq (.seq (rR [12] [qM 12 6]) (.cond 12 (.seq (rR [4] [oQ 4 (.mov (.c (.int .i64 0)))]) .ret) .skip)) (.seq (rR [4] [oQ 4 (.mov (.c (.int .i64 (-1))))]) .ret)) .skip)) (.seq (.seq (rR [0,1,13] [qM 13 6]) (.cond 13 (.seq (rR [4] [oQ 4 (.mov (.c (.int .i64 1)))]) .ret) .skip)) (.seq (.seq (rR [0,1,16] [qM 14 0,qM 15 1,oQ 16 (.bin .lss 14 15)]) (.cond 16 (.seq (rR [4] [oQ 4 (.mov (.c (.int .i64 (-1))))]) .ret) .skip)) (.seq (.seq (rR [19] [qM 17 0,qM 18 1,oQ 19 (.bin .gtr 17 18)]) (.cond 19 (.seq (rR [4] [oQ 4 (.mov (.c (.int .i64 1)))]) .ret) .skip)) (.seq (rR [4] [oQ 4 (.mov (.c (.int .i64 0)))]) .ret))))))))
theorem py(hn:ab.length<=20)(h:SP Tryz.prog true ab bs pq [.slot 4] Q):AM.Sem Tryz.prog 101 ab bs Q:=
 oZ (keeps:=[(0,[0,1]),(1,[0,1,5]),(2,[0,1,5,6]),(3,[0,1,6,11]),(4,[12]),(5,[4]),(6,[4]),(7,[0,1,13]),(8,[4]),(9,[0,1,16]),(10,[4]),(11,[19]),(12,[4]),(13,[4])]) (solo:=[]) Tryz.func101 rfl hn h
def rF:RC:=
 (.seq (rR [0] [oQ 2 (.mov (.c (.bool false)))]) (.seq (rR [2] [qM 3 0,qM 4 0,oQ 5 (.bin .neq 3 4),qM 2 5]) .ret))
theorem rN(hn:ab.length<=6)(h:SP Tryz.prog true ab bs rF [.slot 2] Q):AM.Sem Tryz.prog 152 ab bs Q:=
 oZ (keeps:=[(0,[0]),(1,[2])]) (solo:=[]) Tryz.func152 rfl hn h
def oH:RC:=
 (.seq (rR [0] [oQ 2 (.mov (.c (.bool false)))]) (.seq (rR [2] [qM 3 0,qM 4 0,oQ 5 (.bin .neq 3 4),qM 2 5]) .ret))
theorem oK(hn:ab.length<=6)(h:SP Tryz.prog true ab bs oH [.slot 2] Q):AM.Sem Tryz.prog 254 ab bs Q:=
 oZ (keeps:=[(0,[0]),(1,[2])]) (solo:=[]) Tryz.func254 rfl hn h
def ta:RC:=
 (.seq (rR [2,3] [oQ 2 (.box 0),oQ 3 (.box 1),oQ 4 (.mov (.c (.int .i64 0)))]) (.seq (.seq (.reg true [2,3,5] [qF 8 0 2,qL 9 8,oQ 10 (cF 237 [9]),qF 11 0 3,qL 12 11,oQ 13 (cF 237 [12]),oQ 14 (cF 101 [10,13]),oQ 5 (.take 14)]) (.seq (rR [2,3,5,16] [qM 15 5,oQ 16 (.bin .neq 15 (.c (.int .i64 0)))]) (.cond 16 (.seq (rR [4] [qM 17 5,qM 4 17]) .ret) .skip))) (.seq (.seq (rR [2,3,20] [qF 18 0 2,qL 19 18,oQ 20 (cF 237 [19])]) (.block 0 (.seq (.seq (rR [2,3,20,21] [oQ 22 (.bin .eql 20 (.c (.int .i64 0))),qM 21 22]) (.cond 21 .skip (rR [2,3,20,21] [oQ 23 (.bin .eql 20 (.c (.int .i64 1))),qM 21 23]))) (.cond 21 (.seq (rR [4] [qF 24 1 2,qL 25 24,qF 26 1 3,qL 27 26,oQ 28 (cF 101 [25,27]),qM 4 28]) .ret) (.seq (rR [2,3,29] [oQ 30 (.bin .eql 20 (.c (.int .i64 2))),qM 29 30]) (.cond 29 (.seq (.seq (rR [2,3,6] [qF 31 3 2,qL 32 31,oQ 33 (.len false 32),qF 34 3 3,qL 35 34,oQ 36 (.len false 35),oQ 37 (cF 101 [33,36]),qM 6 37])
 (.seq (rR [2,3,6,39] [qM 38 6,oQ 39 (.bin .neq 38 (.c (.int .i64 0)))]) (.cond 39 (.seq (rR [4] [qM 40 6,qM 4 40]) .ret) .skip))) (.seq (.seq (rR [2,3,7] [qF 41 2 2,qL 42 41,qF 43 2 3,qL 44 43,oQ 45 (cF 238 [42,44]),qM 7 45]) (.seq (rR [2,3,7,47] [qM 46 7,oQ 47 (.bin .neq 46 (.c (.int .i64 0)))]) (.cond 47 (.seq (rR [4] [qM 48 7,qM 4 48]) .ret) .skip))) (.seq (rR [4] [qF 49 3 2,qL 50 49,qF 51 3 3,qL 52 51,oQ 53 (cF 239 [50,52]),qM 4 53]) .ret))) .skip)))))) (.seq (.reg true [4] [qF 54 0 2,qL 55 54,qF 56 0 3,qL 57 56,oQ 58 (cF 101 [55,57]),qF 59 1 2,qL 60 59,qF 61 1 3,qL 62 61,oQ 63 (cF 101 [60,62]),qF 64 2 2,qL 65 64,qF 66 2 3,qL 67 66,oQ 68 (cF 238 [65,67]),oQ 69 (.aM 1 [58,63,68]),oQ 70 (cF 240 [69]),oQ 4 (.take 70)]) .ret))))
theorem tj(hn:ab.length<=71)(h:SP Tryz.prog true ab bs ta [.slot 4] Q):AM.Sem Tryz.prog 213 ab bs Q:=
 oZ (keeps:=[(0,[2,3]),(1,[2,3,5]),(2,[2,3,5,16]),(3,[4]),(4,[2,3,20]),(5,[2,3,20,21]),(6,[2,3,20,21]),(8,[2,3,29]),(9,[2,3,6]),(10,[2,3,6,39]),(11,[4]),(12,[2,3,7]),(13,[2,3,7,47]),(14,[4]),(15,[4]),(7,[4]),(16,[4])]) (solo:=[]) Tryz.func213 rfl hn h
def Aw:RC:=
 (.seq (rR [1] [oQ 1 (.box 0),oQ 2 (.mov (.c (.sl .full [])))]) (.seq (.seq (rR [1,5] [qF 3 0 1,qL 4 3,oQ 5 (.bin .eql 4 (.c (.int .i64 2)))]) (.cond 5 (.seq (rR [2] [qF 6 3 1,qL 7 6,qM 2 7]) .ret) .skip)) (.seq (rR [2] [oQ 2 (.mov (.c (.sl .full [])))]) .ret)))
theorem AT(hn:ab.length<=8)(h:SP Tryz.prog true ab bs Aw [.slot 2] Q):AM.Sem Tryz.prog 209 ab bs Q:=
 oZ (keeps:=[(0,[1]),(1,[1,5]),(2,[2]),(3,[2])]) (solo:=[]) Tryz.func209 rfl hn h
def Au:RC:=
 (.seq (rR [0,1] [oQ 4 (.mov (.c (.int .i64 0)))]) (.seq (.seq (rR [0,1,8,9] [qM 7 0,oQ 8 (.len false 7),oQ 9 (.mov (.c (.int .i64 0)))]) (.block 0 (.loop (.seq (rR [0,1,8,9,10] [oQ 10 (.bin .lss 9 8)]) (.seq (.cond 10 .skip (.exit 0)) (.seq (.block 1 (.seq (rR [0,1,5,8,9] [qM 11 9,qM 5 11]) (.seq (.reg true [0,1,6,8,9] [qM 12 0,qM 13 5,qI 14 4 12 13,qA 15 4 14,qM 16 1,qM 17 5,qI 18 4 16 17,qA 19 4 18,oQ 20 (cF 213 [15,19]),oQ 6 (.take 20)]) (.seq (rR [0,1,6,8,9,22] [qM 21 6,oQ 22 (.bin .neq 21 (.c (.int .i64 0)))]) (.cond 22 (.seq (rR [4] [qM 23 6,qM 4 23]) .ret) .skip))))) (rR [0,1,8,9] [oQ 24 (.bin .add 9 (.c (.int .i64 1))),qM 9 24]))))))) (.seq (rR [4] [oQ 4 (.mov (.c (.int .i64 0)))]) .ret)))
theorem AR(hn:ab.length<=25)(h:SP Tryz.prog true ab bs Au [.slot 4] Q):AM.Sem Tryz.prog 239 ab bs Q:=
 oZ (keeps:=[(0,[0,1]),(1,[0,1,8,9]),(2,[0,1,8,9,10]),(3,[0,1,5,8,9]),(4,[0,1,6,8,9]),(5,[0,1,6,8,9,22]),(6,[4]),(7,[0,1,8,9]),(8,[4])]) (solo:=[]) Tryz.func239 rfl hn h
def Ar:RC:=
 (.seq (rR [0] [oQ 2 (.mov (.c (.int .i64 0)))]) (.seq (.seq (rR [3] [qM 3 0]) (.block 0 (.seq (rR [3,4] [oQ 5 (.bin .eql 3 (.c (.int .i64 1))),qM 4 5]) (.cond 4 (.seq (rR [2] [oQ 2 (.mov (.c (.int .i64 0)))]) .ret) (.seq (rR [3,6] [oQ 7 (.bin .eql 3 (.c (.int .i64 0))),qM 6 7]) (.cond 6 (.seq (rR [2] [oQ 2 (.mov (.c (.int .i64 1)))]) .ret) (.seq (rR [8] [oQ 9 (.bin .eql 3 (.c (.int .i64 2))),qM 8 9]) (.cond 8 (.seq (rR [2] [oQ 2 (.mov (.c (.int .i64 2)))]) .ret) .skip)))))))) (.seq (rR [2] [oQ 2 (.mov (.c (.int .i64 3)))]) .ret)))
theorem AP(hn:ab.length<=10)(h:SP Tryz.prog true ab bs Ar [.slot 2] Q):AM.Sem Tryz.prog 237 ab bs Q:=
 oZ (keeps:=[(0,[0]),(1,[3]),(2,[3,4]),(4,[3,6]),(6,[8]),(7,[2]),(5,[2]),(3,[2]),(8,[2])]) (solo:=[]) Tryz.func237 rfl hn h
def ru:RC:=
 (.seq (rR [1] [oQ 1 (.box 0),oQ 2 (.mov (.c (.sl .full [])))]) (.seq (rR [2] [qF 3 1 1,qL 4 3,oQ 5 (cF 134 [4]),oQ 6 (cF 133 [5]),qM 2 6]) .ret))
theorem rJ(hn:ab.length<=7)(h:SP Tryz.prog true ab bs ru [.slot 2] Q):AM.Sem Tryz.prog 71 ab bs Q:=
 oZ (keeps:=[(0,[1]),(1,[2])]) (solo:=[]) Tryz.func71 rfl hn h
def As:RC:=
 (.seq (rR [0,2] [oQ 2 (.mov (.c (.sl .full [])))]) (.seq (rR [0,2,3] [oQ 3 (.box (.c (.sl .full [])))]) (.seq (rR [0,2,3,4] [oQ 6 (.eff .mkM []),oQ 4 (.box (.c .nmp)),oN (.store 1 4 6)]) (.seq (.seq (rR [2,3,4,7] [qM 7 0]) (.block 0 (.range 7 [8] (rR [3,4,5] [qM 5 8]) (.block 1 (.seq (rR [3,4,5,12] [qL 9 4,qM 10 5,oQ 11 (.eff (.getM false (.bool false)) [9,10]),oQ 12 (.un .not 11)]) (.cond 12 (.seq (rR [3,5] [qL 13 4,qM 14 5,oN (.eff .BX [13,14,(.c (.bool true))])]) (rR [] [qL 15 3,qM 16 5,oQ 17 (.aM 1 [16]),oQ 18 (.append 1 15 17),oN (.store 1 3 18)])) .skip)))))) (.seq (rR [2] [qL 19 3,qM 2 19]) .ret)))))
theorem AQ(hn:ab.length<=20)(h:SP Tryz.prog true ab bs As [.slot 2] Q):AM.Sem Tryz.prog 133 ab bs Q:=
 oZ (keeps:=[(0,[0,2]),(1,[0,2,3]),(2,[0,2,3,4]),(3,[2,3,4,7]),(4,[3,4,5]),(5,[3,4,5,12]),(6,[3,5]),(7,[]),(8,[2])]) (solo:=[]) Tryz.func133 rfl hn h
def Av:RC:=
 (.seq (rR [1] [oQ 1 (.box 0),oQ 2 (.mov (.c .nfn))]) (.seq (rR [2] [oQ 3 (.pD (.func 182) [] [1]),qM 2 3]) .ret))
theorem AS(hn:ab.length<=4)(h:SP Tryz.prog true ab bs Av [.slot 2] Q):AM.Sem Tryz.prog 134 ab bs Q:=
 oZ (keeps:=[(0,[1]),(1,[2])]) (solo:=[]) Tryz.func134 rfl hn h
def Ax:RC:=
 (.seq (rR [1] [oQ 1 (.box 0),oQ 2 (.mov (.c (.sl .full [])))]) (.seq (rR [2] [qA 3 4 1,oQ 4 (.aM 4 [3]),oQ 5 (cF 134 [4]),oQ 6 (cF 133 [5]),qM 2 6]) .ret))
theorem AU(hn:ab.length<=7)(h:SP Tryz.prog true ab bs Ax [.slot 2] Q):AM.Sem Tryz.prog 73 ab bs Q:=
 oZ (keeps:=[(0,[1]),(1,[2])]) (solo:=[]) Tryz.func73 rfl hn h
def Ay:RC:=
 (.seq (rR [2,3] [oQ 2 (.box 0),oQ 3 (.box 1),oQ 4 (.mov (.c (.bool false)))]) (.seq (rR [4] [qA 5 4 2,qA 6 4 3,oQ 7 (cF 213 [5,6]),oQ 8 (.bin .eql 7 (.c (.int .i64 0))),qM 4 8]) .ret))
theorem AW(hn:ab.length<=9)(h:SP Tryz.prog true ab bs Ay [.slot 4] Q):AM.Sem Tryz.prog 186 ab bs Q:=
 oZ (keeps:=[(0,[2,3]),(1,[4])]) (solo:=[]) Tryz.func186 rfl hn h
def Cl:RC:=
 (.seq (rR [0,2] [oQ 2 (.box (.c (.agg [(.int .i64 0),(.int .i64 0),(.str ⟨⟨[]⟩⟩),(.sl .full [])])))]) (.seq (rR [2] [qM 3 0,oQ 4 (.build [(.int .i64 0),(.int .i64 0),(.str ⟨⟨[]⟩⟩),(.sl .full [])] [(0,1,(.c (.int .i64 0))),(1,1,3)]),oN (.store 4 2 4)]) .ret))
theorem CA(hn:ab.length<=5)(h:SP Tryz.prog true ab bs Cl [.cell 2 true 4] Q):AM.Sem Tryz.prog 81 ab bs Q:=
 oZ (keeps:=[(0,[0,2]),(1,[2])]) (solo:=[]) Tryz.func81 rfl hn h
def Ck:RC:=
 (.seq (rR [0,2] [oQ 2 (.box (.c (.agg [(.int .i64 0),(.int .i64 0),(.str ⟨⟨[]⟩⟩),(.sl .full [])])))]) (.seq (rR [2] [qM 3 0,oQ 4 (.build [(.int .i64 0),(.int .i64 0),(.str ⟨⟨[]⟩⟩),(.sl .full [])] [(0,1,(.c (.int .i64 1))),(1,1,3)]),oN (.store 4 2 4)]) .ret))
theorem Cz(hn:ab.length<=5)(h:SP Tryz.prog true ab bs Ck [.cell 2 true 4] Q):AM.Sem Tryz.prog 80 ab bs Q:=
 oZ (keeps:=[(0,[0,2]),(1,[2])]) (solo:=[]) Tryz.func80 rfl hn h
def uv:RC:=
 (.seq (rR [0,1,5,6] [qL 4 1,oQ 5 (.len false 4),oQ 6 (.mov (.c (.int .i64 0)))]) (.block 0 (.loop (.seq (rR [0,1,5,6,7] [oQ 7 (.bin .lss 6 5)]) (.seq (.cond 7 .skip (.exit 0)) (.seq (.block 1 (.seq (rR [0,1,3,5,6] [qM 8 6,qM 3 8]) (.seq (rR [0,1,5,6,15] [qL 9 1,qM 10 3,qI 11 4 9 10,qA 12 4 11,qM 13 0,oQ 14 (cF 183 [12,13]),oQ 15 (.un .not 14)]) (.cond 15 .ret .skip)))) (rR [0,1,5,6] [oQ 16 (.bin .add 6 (.c (.int .i64 1))),qM 6 16])))))))
def Aq:RC:=
 (.seq (rR [1,2] [oQ 2 (.box 0),oQ 4 (.mov (.c (.bool false)))]) (.seq (.seq (rR [1,2,9] [qF 7 0 2,qL 8 7,oQ 9 (.bin .eql 8 (.c (.int .i64 1)))]) (.cond 9 (.seq (rR [4] [qM 10 1,qF 11 1 2,qL 12 11,oQ 13 (.dM 10 [12]),qM 4 13]) .ret) .skip)) (.seq (.seq (rR [1,15,16,17] [qA 14 4 2,oQ 15 (cF 209 [14]),oQ 16 (.len false 15),oQ 17 (.mov (.c (.int .i64 0)))]) (.block 0 (.loop (.seq (rR [1,15,16,17,18] [oQ 18 (.bin .lss 17 16)]) (.seq (.cond 18 .skip (.exit 0)) (.seq (.block 1 (.seq (rR [1,6,15,16,17] [qI 19 4 15 17,qA 20 4 19,oQ 6 (.box (.c (.agg [(.int .i64 0),(.int .i64 0),(.str ⟨⟨[]⟩⟩),(.sl .full [])]))),oN (.store 4 6 20)]) (.seq (rR [1,15,16,17,24] [qA 21 4 6,qM 22 1,oQ 23 (cF 183 [21,22]),oQ 24 (.un .not 23)]) (.cond 24 (.seq (rR [4] [oQ 4 (.mov (.c (.bool false)))]) .ret) .skip)))) (rR [1,15,16,17] [oQ 25 (.bin .add 17 (.c (.int .i64 1))),qM 17 25])))))))
 (.seq (rR [4] [oQ 4 (.mov (.c (.bool true)))]) .ret))))
def kT:RC:=
 (.seq (rR [0,3] [oQ 3 (.box 1),oQ 4 (.mov (.c (.sl .full [])))]) (.seq (.seq (rR [0,3,16] [qF 7 0 3,qL 8 7,oQ 9 (.bin .eql 8 (.c (.int .i64 1))),qM 10 9,oG 11 10 true (.mov 0),oG 12 10 true (.aL 1 3),oG 13 10 true (.load false 1 12),oG 14 10 true (cF 234 [11,13]),oG 15 10 true (.un .not 14),oQ 16 (.pick 10 15 (.c (.bool false)))]) (.cond 16 (rR [0,3] [qM 17 0,qF 18 1 3,qL 19 18,oQ 20 (.aM 1 [19]),oQ 21 (.eff (.oP 1) [17,20]),qM 0 21]) .skip)) (.seq (rR [0,5] [qA 22 4 3,oQ 23 (cF 212 [22]),qM 5 23]) (.seq (.seq (rR [0,5,6] [oQ 6 (.mov (.c (.int .i64 0)))]) (.block 0 (.loop (.seq (.seq (rR [0,5,6,27] [qM 24 6,qM 25 5,oQ 26 (.len false 25),oQ 27 (.bin .lss 24 26)]) (.cond 27 .skip (.exit 0))) (.seq (.block 1 (rR [0,5,6] [qM 30 0,qM 31 5,qM 32 6,qI 33 4 31 32,qA 34 4 33,oQ 35 (cF 204 [30,34]),qM 0 35])) (rR [0,5,6] [qM 28 6,oQ 29 (.bin .add 28 (.c (.int .i64 1))),qM 6 29]))))))
 (.seq (rR [4] [qM 36 0,qM 4 36]) .ret)))))
def jm:RC:=
 (.seq (rR [0] [oQ 2 (.mov (.c (.sl .full [])))]) (.seq (rR [0,3] [oQ 3 (.mov (.c (.sl .full [])))]) (.seq (.seq (rR [0,3,4] [oQ 4 (.mov (.c (.int .i64 0)))]) (.block 0 (.loop (.seq (.seq (rR [0,3,4,8] [qM 5 4,qM 6 0,oQ 7 (.len false 6),oQ 8 (.bin .lss 5 7)]) (.cond 8 .skip (.exit 0))) (.seq (.block 1 (rR [0,3,4] [qM 11 3,qM 12 0,qM 13 4,qI 14 4 12 13,qA 15 4 14,oQ 16 (cF 204 [11,15]),qM 3 16])) (rR [0,3,4] [qM 9 4,oQ 10 (.bin .add 9 (.c (.int .i64 1))),qM 4 10])))))) (.seq (rR [2] [qM 17 3,qM 2 17]) .ret))))
def gz:RC:=
 (.seq (rR [0,1] [oQ 4 (.mov (.c (.bool false)))]) (.seq (.seq (rR [0,1,10] [qM 6 0,oQ 7 (.len false 6),qM 8 1,oQ 9 (.len false 8),oQ 10 (.bin .neq 7 9)]) (.cond 10 (.seq (rR [4] [oQ 4 (.mov (.c (.bool false)))]) .ret) .skip)) (.seq (.seq (rR [0,1,5] [oQ 5 (.mov (.c (.int .i64 0)))]) (.block 0 (.loop (.seq (.seq (rR [0,1,5,20] [qM 11 5,qM 12 0,oQ 13 (.len false 12),oQ 14 (.bin .lss 11 13),qM 15 14,oG 16 15 true (.mov 5),oG 17 15 true (.mov 1),oG 18 15 true (.len false 17),oG 19 15 true (.bin .lss 16 18),oQ 20 (.pick 15 19 (.c (.bool false)))]) (.cond 20 .skip (.exit 0))) (.seq (.block 1 (.seq (.reg true [0,1,5,31] [qM 23 0,qM 24 5,qI 25 1 23 24,qL 26 25,qM 27 1,qM 28 5,qI 29 1 27 28,qL 30 29,oQ 31 (.bin .neq 26 30)]) (.cond 31 (.seq (rR [4] [oQ 4 (.mov (.c (.bool false)))]) .ret) .skip))) (rR [0,1,5] [qM 21 5,oQ 22 (.bin .add 21 (.c (.int .i64 1))),qM 5 22]))))))
 (.seq (rR [4] [oQ 4 (.mov (.c (.bool true)))]) .ret))))
theorem gU(hn:ab.length<=32)(h:SP Tryz.prog true ab bs gz [.slot 4] Q):AM.Sem Tryz.prog 17 ab bs Q:=
 oZ (keeps:=[(0,[0,1]),(1,[0,1,10]),(2,[4]),(3,[0,1,5]),(4,[0,1,5,20]),(6,[0,1,5,31]),(7,[4]),(5,[0,1,5]),(8,[4])]) (solo:=[]) Tryz.func17 rfl hn h
def fE:RC:=
 (.seq (rR [0,1] [oQ 4 (.mov (.c (.bool false)))]) (.seq (.seq (rR [0,1,5] [oQ 5 (.mov (.c (.int .i64 0)))]) (.block 0 (.loop (.seq (.seq (rR [0,1,5,13] [qM 6 5,qM 7 0,oQ 8 (.len false 7),oQ 9 (.bin .lss 6 8),qM 10 9,oG 11 10 true (.mov 1),oG 12 10 true (.bin .geq 11 (.c (.int .i64 0))),oQ 13 (.pick 10 12 (.c (.bool false)))]) (.cond 13 .skip (.exit 0))) (.seq (.block 1 (.reg true [0,1,5] [qM 16 0,qM 17 5,qI 18 2 16 17,qF 19 1 18,qL 20 19,qM 21 1,oQ 22 (.bin .sub 21 (.c (.int .i64 1))),qM 23 0,qM 24 5,qI 25 2 23 24,qF 26 0 25,qL 27 26,oQ 28 (.len true 27),oQ 29 (.bin .quo 28 (.c (.int .i64 8))),oQ 30 (.bin .sub 22 29),oQ 31 (cF 93 [20,30,(.c (.int .i64 64))]),oQ 1 (.take 31)])) (rR [0,1,5] [qM 14 5,oQ 15 (.bin .add 14 (.c (.int .i64 1))),qM 5 15])))))) (.seq (rR [4] [qM 32 1,oQ 33 (.bin .lss 32 (.c (.int .i64 0))),qM 4 33]) .ret)))
theorem fH(hn:ab.length<=34)(h:SP Tryz.prog true ab bs fE [.slot 4] Q):AM.Sem Tryz.prog 37 ab bs Q:=
 oZ (keeps:=[(0,[0,1]),(1,[0,1,5]),(2,[0,1,5,13]),(4,[0,1,5]),(3,[0,1,5]),(5,[4])]) (solo:=[]) Tryz.func37 rfl hn h
def iD:RC:=
 (.seq (rR [2,3] [oQ 2 (.box 0),oQ 3 (.box 1),oQ 4 (.mov (.c (.int .i64 0)))]) (.seq (.reg true [2,3,5] [qA 6 4 2,oQ 7 (cF 203 [6]),qA 8 4 3,oQ 9 (cF 203 [8]),oQ 10 (cF 160 [7,9]),oQ 5 (.take 10)]) (.seq (.seq (rR [2,3,5,12] [qM 11 5,oQ 12 (.bin .neq 11 (.c (.int .i64 0)))]) (.cond 12 (.seq (rR [4] [qM 13 5,qM 4 13]) .ret) .skip)) (.seq (.seq (rR [2,3,15] [qA 14 4 2,oQ 15 (cF 203 [14])]) (.block 0 (.seq (.seq (rR [2,3,15,16] [oQ 17 (.bin .eql 15 (.c (.int .i64 0))),qM 16 17]) (.cond 16 .skip (rR [2,3,15,16] [oQ 18 (.bin .eql 15 (.c (.int .i64 1))),qM 16 18]))) (.cond 16 (.seq (rR [4] [qF 19 1 2,qL 20 19,qF 21 1 3,qL 22 21,oQ 23 (cF 160 [20,22]),qM 4 23]) .ret) (.seq (rR [2,3,24] [oQ 25 (.bin .eql 15 (.c (.int .i64 2))),qM 24 25]) (.cond 24 (.seq (rR [2,3,5] [qF 26 3 2,qL 27 26,oQ 28 (.len false 27),qF 29 3 3,qL 30 29,oQ 31 (.len false 30),oQ 32 (cF 160 [28,31]),qM 5 32])
 (.seq (.seq (rR [2,3,5,34] [qM 33 5,oQ 34 (.bin .eql 33 (.c (.int .i64 0)))]) (.cond 34 (rR [2,3,5] [qF 35 2 2,qL 36 35,qF 37 2 3,qL 38 37,oQ 39 (cF 159 [36,38]),qM 5 39]) .skip)) (.seq (.seq (rR [2,3,5,41] [qM 40 5,oQ 41 (.bin .eql 40 (.c (.int .i64 0)))]) (.cond 41 (rR [5] [qF 42 3 2,qL 43 42,qF 44 3 3,qL 45 44,oQ 46 (cF 110 [43,45]),qM 5 46]) .skip)) (.seq (rR [4] [qM 47 5,qM 4 47]) .ret)))) .skip)))))) (.seq (rR [2,3,5] [qF 48 0 2,qL 49 48,qF 50 0 3,qL 51 50,oQ 52 (cF 160 [49,51]),qM 5 52]) (.seq (.seq (rR [2,3,5,54] [qM 53 5,oQ 54 (.bin .eql 53 (.c (.int .i64 0)))]) (.cond 54 (rR [2,3,5] [qF 55 1 2,qL 56 55,qF 57 1 3,qL 58 57,oQ 59 (cF 160 [56,58]),qM 5 59]) .skip)) (.seq (.seq (rR [2,3,5,61] [qM 60 5,oQ 61 (.bin .eql 60 (.c (.int .i64 0)))]) (.cond 61 (rR [5] [qF 62 2 2,qL 63 62,qF 64 2 3,qL 65 64,oQ 66 (cF 159 [63,65]),qM 5 66])
 .skip)) (.seq (rR [4] [qM 67 5,qM 4 67]) .ret))))))))
theorem iQ(hn:ab.length<=68)(h:SP Tryz.prog true ab bs iD [.slot 4] Q):AM.Sem Tryz.prog 161 ab bs Q:=
 oZ (keeps:=[(0,[2,3]),(1,[2,3,5]),(2,[2,3,5,12]),(3,[4]),(4,[2,3,15]),(5,[2,3,15,16]),(6,[2,3,15,16]),(8,[2,3,24]),(9,[2,3,5]),(10,[2,3,5,34]),(11,[2,3,5]),(12,[2,3,5,41]),(13,[5]),(14,[4]),(7,[4]),(15,[2,3,5]),(16,[2,3,5,54]),(17,[2,3,5]),(18,[2,3,5,61]),(19,[5]),(20,[4])]) (solo:=[]) Tryz.func161 rfl hn h
def kW:RC:=
 (.seq (rR [1] [oQ 1 (.box 0),oQ 2 (.mov (.c (.sl .full [])))]) (.seq (.seq (rR [1,5] [qF 3 0 1,qL 4 3,oQ 5 (.bin .eql 4 (.c (.int .i64 2)))]) (.cond 5 (.seq (rR [2] [qF 6 3 1,qL 7 6,qM 2 7]) .ret) .skip)) (.seq (rR [2] [oQ 2 (.mov (.c (.sl .full [])))]) .ret)))
theorem lh(hn:ab.length<=8)(h:SP Tryz.prog true ab bs kW [.slot 2] Q):AM.Sem Tryz.prog 212 ab bs Q:=
 oZ (keeps:=[(0,[1]),(1,[1,5]),(2,[2]),(3,[2])]) (solo:=[]) Tryz.func212 rfl hn h
def jX:RC:=
 (.seq (rR [1] [oQ 1 (.box 0),oQ 2 (.mov (.c (.int .i64 0)))]) (.seq (.seq (rR [4] [qF 3 0 1,qL 4 3]) (.block 0 (.seq (rR [4,5] [oQ 6 (.bin .eql 4 (.c (.int .i64 1))),qM 5 6]) (.cond 5 (.seq (rR [2] [oQ 2 (.mov (.c (.int .i64 0)))]) .ret) (.seq (rR [4,7] [oQ 8 (.bin .eql 4 (.c (.int .i64 0))),qM 7 8]) (.cond 7 (.seq (rR [2] [oQ 2 (.mov (.c (.int .i64 1)))]) .ret) (.seq (rR [9] [oQ 10 (.bin .eql 4 (.c (.int .i64 2))),qM 9 10]) (.cond 9 (.seq (rR [2] [oQ 2 (.mov (.c (.int .i64 2)))]) .ret) .skip)))))))) (.seq (rR [2] [oQ 2 (.mov (.c (.int .i64 3)))]) .ret)))
theorem ko(hn:ab.length<=11)(h:SP Tryz.prog true ab bs jX [.slot 2] Q):AM.Sem Tryz.prog 203 ab bs Q:=
 oZ (keeps:=[(0,[1]),(1,[4]),(2,[4,5]),(4,[4,7]),(6,[9]),(7,[2]),(5,[2]),(3,[2]),(8,[2])]) (solo:=[]) Tryz.func203 rfl hn h
def jV:RC:=
 (.seq (rR [0,1] [oQ 4 (.mov (.c (.int .i64 0)))]) (.seq (.block 0 (.seq (rR [0,1,5] [qM 6 0,qM 7 1,oQ 8 (.bin .lss 6 7),qM 5 8]) (.cond 5 (.seq (rR [4] [oQ 4 (.mov (.c (.int .i64 (-1))))]) .ret) (.seq (rR [9] [qM 10 0,qM 11 1,oQ 12 (.bin .gtr 10 11),qM 9 12]) (.cond 9 (.seq (rR [4] [oQ 4 (.mov (.c (.int .i64 1)))]) .ret) .skip))))) (.seq (rR [4] [oQ 4 (.mov (.c (.int .i64 0)))]) .ret)))
theorem kf(hn:ab.length<=13)(h:SP Tryz.prog true ab bs jV [.slot 4] Q):AM.Sem Tryz.prog 159 ab bs Q:=
 oZ (keeps:=[(0,[0,1]),(1,[0,1,5]),(3,[9]),(4,[4]),(2,[4]),(5,[4])]) (solo:=[]) Tryz.func159 rfl hn h
def kU:RC:=
 (.seq (rR [0,1] [oQ 4 (.mov (.c (.int .i64 0)))]) (.seq (.block 0 (.seq (rR [0,1,5] [qM 6 0,qM 7 1,oQ 8 (.bin .lss 6 7),qM 5 8]) (.cond 5 (.seq (rR [4] [oQ 4 (.mov (.c (.int .i64 (-1))))]) .ret) (.seq (rR [9] [qM 10 0,qM 11 1,oQ 12 (.bin .gtr 10 11),qM 9 12]) (.cond 9 (.seq (rR [4] [oQ 4 (.mov (.c (.int .i64 1)))]) .ret) .skip))))) (.seq (rR [4] [oQ 4 (.mov (.c (.int .i64 0)))]) .ret)))
theorem lg(hn:ab.length<=13)(h:SP Tryz.prog true ab bs kU [.slot 4] Q):AM.Sem Tryz.prog 160 ab bs Q:=
 oZ (keeps:=[(0,[0,1]),(1,[0,1,5]),(3,[9]),(4,[4]),(2,[4]),(5,[4])]) (solo:=[]) Tryz.func160 rfl hn h
def jW:RC:=
 (.seq (rR [0,1] [oQ 4 (.mov (.c (.int .i64 0)))]) (.seq (.seq (rR [0,1,5] [oQ 5 (.mov (.c (.int .i64 0)))]) (.block 0 (.loop (.seq (.seq (rR [0,1,5,16] [qM 7 5,qM 8 0,oQ 9 (.len false 8),oQ 10 (.bin .lss 7 9),qM 11 10,oG 12 11 true (.mov 5),oG 13 11 true (.mov 1),oG 14 11 true (.len false 13),oG 15 11 true (.bin .lss 12 14),oQ 16 (.pick 11 15 (.c (.bool false)))]) (.cond 16 .skip (.exit 0))) (.seq (.block 1 (.seq (.reg true [0,1,5,6] [qM 19 0,qM 20 5,qI 21 4 19 20,qA 22 4 21,qM 23 1,qM 24 5,qI 25 4 23 24,qA 26 4 25,oQ 27 (cF 161 [22,26]),oQ 6 (.take 27)]) (.seq (rR [0,1,5,6,29] [qM 28 6,oQ 29 (.bin .neq 28 (.c (.int .i64 0)))]) (.cond 29 (.seq (rR [4] [qM 30 6,qM 4 30]) .ret) .skip)))) (rR [0,1,5] [qM 17 5,oQ 18 (.bin .add 17 (.c (.int .i64 1))),qM 5 18])))))) (.seq (rR [4] [qM 31 0,oQ 32 (.len false 31),qM 33 1,oQ 34 (.len false 33),oQ 35 (cF 160 [32,34]),qM 4 35])
 .ret)))
theorem kg(hn:ab.length<=36)(h:SP Tryz.prog true ab bs jW [.slot 4] Q):AM.Sem Tryz.prog 110 ab bs Q:=
 oZ (keeps:=[(0,[0,1]),(1,[0,1,5]),(2,[0,1,5,16]),(4,[0,1,5,6]),(5,[0,1,5,6,29]),(6,[4]),(3,[0,1,5]),(7,[4])]) (solo:=[]) Tryz.func110 rfl hn h
def jU:RC:=
 (.seq (rR [0,1,2] [oQ 6 (.mov (.c (.int .i64 0)))]) (.seq (.seq (rR [0,1,2,15] [qM 8 2,oQ 9 (.bin .eql 8 (.c (.int .i64 0))),qM 10 9,oG 11 10 false (.mov 0),oG 12 10 false (.len false 11),oG 13 10 false (.mov 1),oG 14 10 false (.bin .gtr 12 13),oQ 15 (.pick 10 (.c (.bool true)) 14)]) (.cond 15 (.seq (rR [6] [oQ 6 (.mov (.c (.int .i64 (-1))))]) .ret) .skip)) (.seq (.seq (rR [0,1,2,7] [oQ 7 (.mov (.c (.int .i64 0)))]) (.block 0 (.loop (.seq (.seq (rR [0,1,2,7,23] [qM 16 7,qM 17 0,oQ 18 (.len false 17),oQ 19 (.bin .lss 16 18),qM 20 19,oG 21 20 true (.mov 1),oG 22 20 true (.bin .geq 21 (.c (.int .i64 0))),oQ 23 (.pick 20 22 (.c (.bool false)))]) (.cond 23 .skip (.exit 0))) (.seq (.block 1 (.reg true [0,1,2,7] [qM 26 0,qM 27 7,qI 28 4 26 27,qF 29 3 28,qL 30 29,qM 31 1,oQ 32 (.bin .sub 31 (.c (.int .i64 1))),qM 33 0,qM 34 7,qI 35 4 33 34,qF 36 2 35,qL 37 36,oQ 38 (.len true 37),oQ 39 (.bin .quo 38 (.c (.int .i64 8))),oQ 40 (.bin .sub 32 39),qM 41 2,oQ 42 (.bin .sub 41 (.c (.int .i64 1))),oQ 43 (cF 93 [30,40,42]),oQ 1 (.take 43)]))
 (rR [0,1,2,7] [qM 24 7,oQ 25 (.bin .add 24 (.c (.int .i64 1))),qM 7 25])))))) (.seq (rR [6] [qM 44 1,qM 6 44]) .ret))))
theorem ke(hn:ab.length<=45)(h:SP Tryz.prog true ab bs jU [.slot 6] Q):AM.Sem Tryz.prog 93 ab bs Q:=
 oZ (keeps:=[(0,[0,1,2]),(1,[0,1,2,15]),(2,[6]),(3,[0,1,2,7]),(4,[0,1,2,7,23]),(6,[0,1,2,7]),(5,[0,1,2,7]),(7,[6])]) (solo:=[]) Tryz.func93 rfl hn h
def lT:RC:=
 (.seq (rR [0,1] [oQ 4 (.mov (.c (.bool false)))]) (.seq (.seq (rR [0,1,5] [oQ 5 (.mov (.c (.int .i64 0)))]) (.block 0 (.loop (.seq (.seq (rR [0,1,5,9] [qM 6 5,qM 7 0,oQ 8 (.len false 7),oQ 9 (.bin .lss 6 8)]) (.cond 9 .skip (.exit 0))) (.seq (.block 1 (.seq (rR [0,1,5,17] [qM 12 0,qM 13 5,qI 14 1 12 13,qL 15 14,qM 16 1,oQ 17 (.bin .eql 15 16)]) (.cond 17 (.seq (rR [4] [oQ 4 (.mov (.c (.bool true)))]) .ret) .skip))) (rR [0,1,5] [qM 10 5,oQ 11 (.bin .add 10 (.c (.int .i64 1))),qM 5 11])))))) (.seq (rR [4] [oQ 4 (.mov (.c (.bool false)))]) .ret)))
theorem l0(hn:ab.length<=18)(h:SP Tryz.prog true ab bs lT [.slot 4] Q):AM.Sem Tryz.prog 234 ab bs Q:=
 oZ (keeps:=[(0,[0,1]),(1,[0,1,5]),(2,[0,1,5,9]),(4,[0,1,5,17]),(5,[4]),(3,[0,1,5]),(6,[4])]) (solo:=[]) Tryz.func234 rfl hn h
def fX:RC:=
 (.seq (rR [0,1] [oQ 4 (.mov (.c (.bool false)))]) (.seq (rR [4] [qM 5 0,qM 6 1,oQ 7 (cF 110 [5,6]),oQ 8 (.bin .eql 7 (.c (.int .i64 0))),qM 4 8]) .ret))
theorem gb(hn:ab.length<=9)(h:SP Tryz.prog true ab bs fX [.slot 4] Q):AM.Sem Tryz.prog 58 ab bs Q:=
 oZ (keeps:=[(0,[0,1]),(1,[4])]) (solo:=[]) Tryz.func58 rfl hn h
theorem cd(hn:ab.length<=9)(h:SP Tryz.prog false ab bs e5 [.slot 4] Q):AM.Sem Tryz.prog 72 ab bs Q:=
 oZ (keeps:=[(0,[0,1]),(1,[4])]) (solo:=[]) Tryz.func72 rfl hn h
theorem cR(hn:ab.length<=19)(h:SP Tryz.prog false ab bs gu [.slot 4] Q):AM.Sem Tryz.prog 109 ab bs Q:=
 oZ (keeps:=[(0,[0,1]),(1,[0,1,7,8]),(2,[0,1,7,8,9]),(3,[0,1,5,7,8]),(4,[0,1,5,7,8,16]),(5,[4]),(6,[0,1,7,8]),(7,[4])]) (solo:=[]) Tryz.func109 rfl hn h
theorem tt(hn:ab.length<=17)(h:SP Tryz.prog false ab bs uv [] Q):AM.Sem Tryz.prog 182 ab bs Q:=
 oZ (keeps:=[(0,[0,1,5,6]),(1,[0,1,5,6,7]),(2,[0,1,3,5,6]),(3,[0,1,5,6,15]),(4,[0,1,5,6])]) (solo:=[]) Tryz.func182 rfl hn h
theorem xa(hn:ab.length<=26)(h:SP Tryz.prog false ab bs Aq [.slot 4] Q):AM.Sem Tryz.prog 183 ab bs Q:=
 oZ (keeps:=[(0,[1,2]),(1,[1,2,9]),(2,[4]),(3,[1,15,16,17]),(4,[1,15,16,17,18]),(5,[1,6,15,16,17]),(6,[1,15,16,17,24]),(7,[4]),(8,[1,15,16,17]),(9,[4])]) (solo:=[]) Tryz.func183 rfl hn h
theorem kA(hn:ab.length<=37)(h:SP Tryz.prog false ab bs kT [.slot 4] Q):AM.Sem Tryz.prog 204 ab bs Q:=
 oZ (keeps:=[(0,[0,3]),(1,[0,3,16]),(2,[0,3]),(3,[0,5]),(4,[0,5,6]),(5,[0,5,6,27]),(7,[0,5,6]),(6,[0,5,6]),(8,[4]),(1000000,[21])]) (solo:=[]) Tryz.func204 rfl hn h
theorem iR(hn:ab.length<=18)(h:SP Tryz.prog false ab bs jm [.slot 2] Q):AM.Sem Tryz.prog 164 ab bs Q:=
 oZ (keeps:=[(0,[0]),(1,[0,3]),(2,[0,3,4]),(3,[0,3,4,8]),(5,[0,3,4]),(4,[0,3,4]),(6,[2])]) (solo:=[]) Tryz.func164 rfl hn h
end Go.CK
