/-
  Texts of this aV joined (wip/gen/bundle.py),those declarations only that are needed:RcTrm AmRw Term Data. By an AI agent.
-/
import Derived.Test.YtcjfkbdbcgmomaaGreatDoorProg
import Derived.Test.YtcjfkbdbcgmomaaGreatDoorSaq
set_option linter.unusedSimpArgs false
set_option linter.unusedVariables false
namespace Go.CK
open Go.AM Go.Proofs
instance {n:Nat}:OfNat Opd n:=⟨.t n⟩
abbrev rR(k:List Nat)(o:List ROp):RC:=.reg false k o
abbrev cF(n:Nat)(a:List Opd):RX:=.call (.c (.fn (.func n) [] [])) a
abbrev oQ(d:Nat)(x:RX):ROp:=⟨some d,none,x⟩
abbrev oG(d g:Nat)(b:Bool)(x:RX):ROp:=⟨some d,some (g,b),x⟩
abbrev oN(x:RX):ROp:=⟨none,none,x⟩
abbrev qM(d a:Nat):ROp:=oQ d (.mov (.t a))
abbrev qK(d a:Nat):ROp:=oQ d (.mJ (.t a))
abbrev qF(d k a:Nat):ROp:=oQ d (.bn k (.t a))
abbrev qL(d a:Nat):ROp:=oQ d (.load false 1 (.t a))
abbrev qA(d z a:Nat):ROp:=oQ d (.load true z (.t a))
abbrev qI(d z a b:Nat):ROp:=oQ d (.idx z (.t a) (.t b))
abbrev SP(P:Program)(b:Bool)(ae:List AV)(bs:List Box)(c:RC)(rs:List e7)(Q:AV->List Box->Prop):Prop:=(⟨params 0 ae,bs,bs.length⟩:St).fo b λs=>c.gp P b s (Li rs Q)
theorem oZ{P:Program}{f:FuncId}{fn:Func}{c:Code}{rc:RC}{keeps:List (Nat×List Nat)}{solo:List (Nat×Nat)}{rs:List e7}{fb:Bool}{ae:List AV}{bs:List Box}{Q:AV->List Box->Prop}(hf:P.funcs[f]? =some fn)(hb:fn.body=some c)(hn:ae.length<=fn.ntmps)(h:SP P fb ae bs rc rs Q)(hm:P.follows .mixedOrders=true:=by kernel_rfl)(hc:fg P fn.ntmps keeps solo true c=some rc:=by kernel_rfl)(hr:mP P fn.results.toList=some rs:=by kernel_rfl):AM.Sem P f ae bs Q:=Sem.nrm (Sem.of hf hb hm hc hr hn (Kd h))
variable{ae:List AV}{bs:List Box}{Q:AV->List Box->Prop}
def fj:RC:=
 (.seq (rR [0,1] [oQ 4 (.mov (.c (.bool false)))]) (.seq (rR [4] [qM 5 0,qM 6 1,oQ 7 (cF 109 [5,6]),oQ 8 (.bin .geq 7 (.c (.int .i64 0))),qM 4 8]) .ret))
def gq:RC:=
 (.seq (rR [0,1] [oQ 4 (.mov (.c (.int .i64 0)))]) (.seq (.seq (rR [0,1,7,8] [qM 6 0,oQ 7 (.len false 6),oQ 8 (.mov (.c (.int .i64 0)))]) (.block 0 (.loop (.seq (rR [0,1,7,8,9] [oQ 9 (.bin .lss 8 7)]) (.seq (.cond 9 .skip (.exit 0)) (.seq (.block 1 (.seq (rR [0,1,5,7,8] [qM 10 8,qM 5 10]) (.seq (rR [0,1,5,7,8,16] [qM 11 1,qM 12 0,qM 13 5,qI 14 1 12 13,qL 15 14,oQ 16 (.dP 11 [15])]) (.cond 16 (.seq (rR [4] [qM 17 5,qM 4 17]) .ret) .skip)))) (rR [0,1,7,8] [oQ 18 (.bin .add 8 (.c (.int .i64 1))),qM 8 18]))))))) (.seq (rR [4] [oQ 4 (.mov (.c (.int .i64 (-1))))]) .ret)))
def oO:RC:=
 (.seq (rR [0,1] [oQ 4 (.mov (.c (.int .i64 0)))]) (.seq (rR [0,1,5] [qM 7 0,oQ 8 (cF 152 [7]),qM 5 8]) (.seq (rR [0,1,5,6] [qM 9 1,oQ 10 (cF 152 [9]),qM 6 10]) (.seq (.seq (rR [0,1,6,11] [qM 11 5]) (.cond 11 (.seq (.seq (rR [12] [qM 12 6]) (.cond 12 (.seq (rR [4] [oQ 4 (.mov (.c (.int .i64 0)))]) .ret) .skip)) (.seq (rR [4] [oQ 4 (.mov (.c (.int .i64 (-1))))]) .ret)) .skip)) (.seq (.seq (rR [0,1,13] [qM 13 6]) (.cond 13 (.seq (rR [4] [oQ 4 (.mov (.c (.int .i64 1)))]) .ret) .skip)) (.seq (.seq (rR [0,1,16] [qM 14 0,qM 15 1,oQ 16 (.bin .lss 14 15)]) (.cond 16 (.seq (rR [4] [oQ 4 (.mov (.c (.int .i64 (-1))))]) .ret) .skip)) (.seq (.seq (rR [19] [qM 17 0,qM 18 1,oQ 19 (.bin .gtr 17 18)]) (.cond 19 (.seq (rR [4] [oQ 4 (.mov (.c (.int .i64 1)))]) .ret) .skip)) (.seq (rR [4] [oQ 4 (.mov (.c (.int .i64 0)))]) .ret))))))))
theorem oR(hn:ae.length<=20)(h:SP Tryz.prog true ae bs oO [.slot 4] Q):AM.Sem Tryz.prog 101 ae bs Q:=
 oZ (keeps:=[(0,[0,1]),(1,[0,1,5]),(2,[0,1,5,6]),(3,[0,1,6,11]),(4,[12]),(5,[4]),(6,[4]),(7,[0,1,13]),(8,[4]),(9,[0,1,16]),(10,[4]),(11,[19]),(12,[4]),(13,[4])]) (solo:=[]) Tryz.func101 rfl hn h
def qv:RC:=
 (.seq (rR [0] [oQ 2 (.mov (.c (.bool false)))]) (.seq (rR [2] [qM 3 0,qM 4 0,oQ 5 (.bin .neq 3 4),qM 2 5]) .ret))
theorem qz(hn:ae.length<=6)(h:SP Tryz.prog true ae bs qv [.slot 2] Q):AM.Sem Tryz.prog 152 ae bs Q:=
 oZ (keeps:=[(0,[0]),(1,[2])]) (solo:=[]) Tryz.func152 rfl hn h
def xU:RC:=
 (.seq (rR [1] [oQ 1 (.box 0),oQ 2 (.mov (.c (.sl .full [])))]) (.seq (.seq (rR [1,5] [qF 3 0 1,qL 4 3,oQ 5 (.bin .eql 4 (.c (.int .i64 2)))]) (.cond 5 (.seq (rR [2] [qF 6 3 1,qL 7 6,qM 2 7]) .ret) .skip)) (.seq (rR [2] [oQ 2 (.mov (.c (.sl .full [])))]) .ret)))
theorem x7(hn:ae.length<=8)(h:SP Tryz.prog true ae bs xU [.slot 2] Q):AM.Sem Tryz.prog 209 ae bs Q:=
 oZ (keeps:=[(0,[1]),(1,[1,5]),(2,[2]),(3,[2])]) (solo:=[]) Tryz.func209 rfl hn h
def qp:RC:=
 (.seq (rR [1] [oQ 1 (.box 0),oQ 2 (.mov (.c (.sl .full [])))]) (.seq (rR [2] [qF 3 1 1,qL 4 3,oQ 5 (cF 134 [4]),oQ 6 (cF 133 [5]),qM 2 6]) .ret))
theorem qw(hn:ae.length<=7)(h:SP Tryz.prog true ae bs qp [.slot 2] Q):AM.Sem Tryz.prog 71 ae bs Q:=
 oZ (keeps:=[(0,[1]),(1,[2])]) (solo:=[]) Tryz.func71 rfl hn h
def xS:RC:=
 (.seq (rR [0,2] [oQ 2 (.mov (.c (.sl .full [])))]) (.seq (rR [0,2,3] [oQ 3 (.box (.c (.sl .full [])))]) (.seq (rR [0,2,3,4] [oQ 6 (.eff .mkM []),oQ 4 (.box (.c .nmp)),oN (.store 1 4 6)]) (.seq (.seq (rR [2,3,4,7] [qM 7 0]) (.block 0 (.range 7 [8] (rR [3,4,5] [qM 5 8]) (.block 1 (.seq (rR [3,4,5,12] [qL 9 4,qM 10 5,oQ 11 (.eff (.getM false (.bool false)) [9,10]),oQ 12 (.un .not 11)]) (.cond 12 (.seq (rR [3,5] [qL 13 4,qM 14 5,oN (.eff .GK [13,14,(.c (.bool true))])]) (rR [] [qL 15 3,qM 16 5,oQ 17 (.aZ 1 [16]),oQ 18 (.append 1 15 17),oN (.store 1 3 18)])) .skip)))))) (.seq (rR [2] [qL 19 3,qM 2 19]) .ret)))))
theorem x5(hn:ae.length<=20)(h:SP Tryz.prog true ae bs xS [.slot 2] Q):AM.Sem Tryz.prog 133 ae bs Q:=
 oZ (keeps:=[(0,[0,2]),(1,[0,2,3]),(2,[0,2,3,4]),(3,[2,3,4,7]),(4,[3,4,5]),(5,[3,4,5,12]),(6,[3,5]),(7,[]),(8,[2])]) (solo:=[]) Tryz.func133 rfl hn h
def xT:RC:=
 (.seq (rR [1] [oQ 1 (.box 0),oQ 2 (.mov (.c .nfn))]) (.seq (rR [2] [oQ 3 (.sd (.func 182) [] [1]),qM 2 3]) .ret))
theorem x6(hn:ae.length<=4)(h:SP Tryz.prog true ae bs xT [.slot 2] Q):AM.Sem Tryz.prog 134 ae bs Q:=
 oZ (keeps:=[(0,[1]),(1,[2])]) (solo:=[]) Tryz.func134 rfl hn h
def tq:RC:=
 (.seq (rR [0,1,5,6] [qL 4 1,oQ 5 (.len false 4),oQ 6 (.mov (.c (.int .i64 0)))]) (.block 0 (.loop (.seq (rR [0,1,5,6,7] [oQ 7 (.bin .lss 6 5)]) (.seq (.cond 7 .skip (.exit 0)) (.seq (.block 1 (.seq (rR [0,1,3,5,6] [qM 8 6,qM 3 8]) (.seq (rR [0,1,5,6,15] [qL 9 1,qM 10 3,qI 11 4 9 10,qA 12 4 11,qM 13 0,oQ 14 (cF 183 [12,13]),oQ 15 (.un .not 14)]) (.cond 15 .ret .skip)))) (rR [0,1,5,6] [oQ 16 (.bin .add 6 (.c (.int .i64 1))),qM 6 16])))))))
def xR:RC:=
 (.seq (rR [1,2] [oQ 2 (.box 0),oQ 4 (.mov (.c (.bool false)))]) (.seq (.seq (rR [1,2,9] [qF 7 0 2,qL 8 7,oQ 9 (.bin .eql 8 (.c (.int .i64 1)))]) (.cond 9 (.seq (rR [4] [qM 10 1,qF 11 1 2,qL 12 11,oQ 13 (.dP 10 [12]),qM 4 13]) .ret) .skip)) (.seq (.seq (rR [1,15,16,17] [qA 14 4 2,oQ 15 (cF 209 [14]),oQ 16 (.len false 15),oQ 17 (.mov (.c (.int .i64 0)))]) (.block 0 (.loop (.seq (rR [1,15,16,17,18] [oQ 18 (.bin .lss 17 16)]) (.seq (.cond 18 .skip (.exit 0)) (.seq (.block 1 (.seq (rR [1,6,15,16,17] [qI 19 4 15 17,qA 20 4 19,oQ 6 (.box (.c (.agg [(.int .i64 0),(.int .i64 0),(.str ⟨⟨[]⟩⟩),(.sl .full [])]))),oN (.store 4 6 20)]) (.seq (rR [1,15,16,17,24] [qA 21 4 6,qM 22 1,oQ 23 (cF 183 [21,22]),oQ 24 (.un .not 23)]) (.cond 24 (.seq (rR [4] [oQ 4 (.mov (.c (.bool false)))]) .ret) .skip)))) (rR [1,15,16,17] [oQ 25 (.bin .add 17 (.c (.int .i64 1))),qM 17 25])))))))
 (.seq (rR [4] [oQ 4 (.mov (.c (.bool true)))]) .ret))))
def gr:RC:=
 (.seq (rR [0,1] [oQ 4 (.mov (.c (.bool false)))]) (.seq (.seq (rR [0,1,10] [qM 6 0,oQ 7 (.len false 6),qM 8 1,oQ 9 (.len false 8),oQ 10 (.bin .neq 7 9)]) (.cond 10 (.seq (rR [4] [oQ 4 (.mov (.c (.bool false)))]) .ret) .skip)) (.seq (.seq (rR [0,1,5] [oQ 5 (.mov (.c (.int .i64 0)))]) (.block 0 (.loop (.seq (.seq (rR [0,1,5,20] [qM 11 5,qM 12 0,oQ 13 (.len false 12),oQ 14 (.bin .lss 11 13),qM 15 14,oG 16 15 true (.mov 5),oG 17 15 true (.mov 1),oG 18 15 true (.len false 17),oG 19 15 true (.bin .lss 16 18),oQ 20 (.pick 15 19 (.c (.bool false)))]) (.cond 20 .skip (.exit 0))) (.seq (.block 1 (.seq (.reg true [0,1,5,31] [qM 23 0,qM 24 5,qI 25 1 23 24,qL 26 25,qM 27 1,qM 28 5,qI 29 1 27 28,qL 30 29,oQ 31 (.bin .neq 26 30)]) (.cond 31 (.seq (rR [4] [oQ 4 (.mov (.c (.bool false)))]) .ret) .skip))) (rR [0,1,5] [qM 21 5,oQ 22 (.bin .add 21 (.c (.int .i64 1))),qM 5 22]))))))
 (.seq (rR [4] [oQ 4 (.mov (.c (.bool true)))]) .ret))))
theorem gJ(hn:ae.length<=32)(h:SP Tryz.prog true ae bs gr [.slot 4] Q):AM.Sem Tryz.prog 17 ae bs Q:=
 oZ (keeps:=[(0,[0,1]),(1,[0,1,10]),(2,[4]),(3,[0,1,5]),(4,[0,1,5,20]),(6,[0,1,5,31]),(7,[4]),(5,[0,1,5]),(8,[4])]) (solo:=[]) Tryz.func17 rfl hn h
def gu:RC:=
 (.seq (rR [2,3] [oQ 2 (.box 0),oQ 3 (.box 1),oQ 4 (.mov (.c (.bool false)))]) (.seq (rR [4] [qA 5 2 2,qA 6 2 3,oQ 7 (cF 107 [5,6]),oQ 8 (.bin .eql 7 (.c (.int .i64 0))),qM 4 8]) .ret))
theorem gO(hn:ae.length<=9)(h:SP Tryz.prog true ae bs gu [.slot 4] Q):AM.Sem Tryz.prog 52 ae bs Q:=
 oZ (keeps:=[(0,[2,3]),(1,[4])]) (solo:=[]) Tryz.func52 rfl hn h
def fK:RC:=
 (.seq (rR [0,1] [oQ 4 (.mov (.c (.bool false)))]) (.seq (.seq (rR [0,1,5] [oQ 5 (.mov (.c (.int .i64 0)))]) (.block 0 (.loop (.seq (.seq (rR [0,1,5,13] [qM 6 5,qM 7 0,oQ 8 (.len false 7),oQ 9 (.bin .lss 6 8),qM 10 9,oG 11 10 true (.mov 1),oG 12 10 true (.bin .geq 11 (.c (.int .i64 0))),oQ 13 (.pick 10 12 (.c (.bool false)))]) (.cond 13 .skip (.exit 0))) (.seq (.block 1 (.reg true [0,1,5] [qM 16 0,qM 17 5,qI 18 2 16 17,qF 19 1 18,qL 20 19,qM 21 1,oQ 22 (.bin .sub 21 (.c (.int .i64 1))),qM 23 0,qM 24 5,qI 25 2 23 24,qF 26 0 25,qL 27 26,oQ 28 (.len true 27),oQ 29 (.bin .quo 28 (.c (.int .i64 8))),oQ 30 (.bin .sub 22 29),oQ 31 (cF 93 [20,30,(.c (.int .i64 64))]),oQ 1 (.take 31)])) (rR [0,1,5] [qM 14 5,oQ 15 (.bin .add 14 (.c (.int .i64 1))),qM 5 15])))))) (.seq (rR [4] [qM 32 1,oQ 33 (.bin .lss 32 (.c (.int .i64 0))),qM 4 33]) .ret)))
theorem fN(hn:ae.length<=34)(h:SP Tryz.prog true ae bs fK [.slot 4] Q):AM.Sem Tryz.prog 37 ae bs Q:=
 oZ (keeps:=[(0,[0,1]),(1,[0,1,5]),(2,[0,1,5,13]),(4,[0,1,5]),(3,[0,1,5]),(5,[4])]) (solo:=[]) Tryz.func37 rfl hn h
def fm:RC:=
 (.seq (rR [2,3] [oQ 2 (.box 0),oQ 3 (.box 1),oQ 4 (.mov (.c (.int .i64 0)))]) (.seq (rR [2,3,5] [qF 6 0 2,qL 7 6,qF 8 0 3,qL 9 8,oQ 10 (cF 159 [7,9]),qM 5 10]) (.seq (.seq (rR [2,3,5,12] [qM 11 5,oQ 12 (.bin .eql 11 (.c (.int .i64 0)))]) (.cond 12 (rR [2,3,5] [qF 13 1 2,qL 14 13,oQ 15 (.len false 14),qF 16 1 3,qL 17 16,oQ 18 (.len false 17),oQ 19 (cF 160 [15,18]),qM 5 19]) .skip)) (.seq (.seq (rR [2,3,5,21] [qM 20 5,oQ 21 (.bin .eql 20 (.c (.int .i64 0)))]) (.cond 21 (rR [5] [qF 22 1 2,qL 23 22,qF 24 1 3,qL 25 24,oQ 26 (cF 110 [23,25]),qM 5 26]) .skip)) (.seq (rR [4] [qM 27 5,qM 4 27]) .ret)))))
theorem ft(hn:ae.length<=28)(h:SP Tryz.prog true ae bs fm [.slot 4] Q):AM.Sem Tryz.prog 107 ae bs Q:=
 oZ (keeps:=[(0,[2,3]),(1,[2,3,5]),(2,[2,3,5,12]),(3,[2,3,5]),(4,[2,3,5,21]),(5,[5]),(6,[4])]) (solo:=[]) Tryz.func107 rfl hn h
def ix:RC:=
 (.seq (rR [2,3] [oQ 2 (.box 0),oQ 3 (.box 1),oQ 4 (.mov (.c (.int .i64 0)))]) (.seq (.reg true [2,3,5] [qA 6 4 2,oQ 7 (cF 203 [6]),qA 8 4 3,oQ 9 (cF 203 [8]),oQ 10 (cF 160 [7,9]),oQ 5 (.take 10)]) (.seq (.seq (rR [2,3,5,12] [qM 11 5,oQ 12 (.bin .neq 11 (.c (.int .i64 0)))]) (.cond 12 (.seq (rR [4] [qM 13 5,qM 4 13]) .ret) .skip)) (.seq (.seq (rR [2,3,15] [qA 14 4 2,oQ 15 (cF 203 [14])]) (.block 0 (.seq (.seq (rR [2,3,15,16] [oQ 17 (.bin .eql 15 (.c (.int .i64 0))),qM 16 17]) (.cond 16 .skip (rR [2,3,15,16] [oQ 18 (.bin .eql 15 (.c (.int .i64 1))),qM 16 18]))) (.cond 16 (.seq (rR [4] [qF 19 1 2,qL 20 19,qF 21 1 3,qL 22 21,oQ 23 (cF 160 [20,22]),qM 4 23]) .ret) (.seq (rR [2,3,24] [oQ 25 (.bin .eql 15 (.c (.int .i64 2))),qM 24 25]) (.cond 24 (.seq (rR [2,3,5] [qF 26 3 2,qL 27 26,oQ 28 (.len false 27),qF 29 3 3,qL 30 29,oQ 31 (.len false 30),oQ 32 (cF 160 [28,31]),qM 5 32])
 (.seq (.seq (rR [2,3,5,34] [qM 33 5,oQ 34 (.bin .eql 33 (.c (.int .i64 0)))]) (.cond 34 (rR [2,3,5] [qF 35 2 2,qL 36 35,qF 37 2 3,qL 38 37,oQ 39 (cF 159 [36,38]),qM 5 39]) .skip)) (.seq (.seq (rR [2,3,5,41] [qM 40 5,oQ 41 (.bin .eql 40 (.c (.int .i64 0)))]) (.cond 41 (rR [5] [qF 42 3 2,qL 43 42,qF 44 3 3,qL 45 44,oQ 46 (cF 110 [43,45]),qM 5 46]) .skip)) (.seq (rR [4] [qM 47 5,qM 4 47]) .ret)))) .skip)))))) (.seq (rR [2,3,5] [qF 48 0 2,qL 49 48,qF 50 0 3,qL 51 50,oQ 52 (cF 160 [49,51]),qM 5 52]) (.seq (.seq (rR [2,3,5,54] [qM 53 5,oQ 54 (.bin .eql 53 (.c (.int .i64 0)))]) (.cond 54 (rR [2,3,5] [qF 55 1 2,qL 56 55,qF 57 1 3,qL 58 57,oQ 59 (cF 160 [56,58]),qM 5 59]) .skip)) (.seq (.seq (rR [2,3,5,61] [qM 60 5,oQ 61 (.bin .eql 60 (.c (.int .i64 0)))]) (.cond 61 (rR [5] [qF 62 2 2,qL 63 62,qF 64 2 3,qL 65 64,oQ 66 (cF 159 [63,65]),qM 5 66])
 .skip)) (.seq (rR [4] [qM 67 5,qM 4 67]) .ret))))))))
theorem iL(hn:ae.length<=68)(h:SP Tryz.prog true ae bs ix [.slot 4] Q):AM.Sem Tryz.prog 161 ae bs Q:=
 oZ (keeps:=[(0,[2,3]),(1,[2,3,5]),(2,[2,3,5,12]),(3,[4]),(4,[2,3,15]),(5,[2,3,15,16]),(6,[2,3,15,16]),(8,[2,3,24]),(9,[2,3,5]),(10,[2,3,5,34]),(11,[2,3,5]),(12,[2,3,5,41]),(13,[5]),(14,[4]),(7,[4]),(15,[2,3,5]),(16,[2,3,5,54]),(17,[2,3,5]),(18,[2,3,5,61]),(19,[5]),(20,[4])]) (solo:=[]) Tryz.func161 rfl hn h
def kL:RC:=
 (.seq (rR [1] [oQ 1 (.box 0),oQ 2 (.mov (.c (.sl .full [])))]) (.seq (.seq (rR [1,5] [qF 3 0 1,qL 4 3,oQ 5 (.bin .eql 4 (.c (.int .i64 2)))]) (.cond 5 (.seq (rR [2] [qF 6 3 1,qL 7 6,qM 2 7]) .ret) .skip)) (.seq (rR [2] [oQ 2 (.mov (.c (.sl .full [])))]) .ret)))
theorem kV(hn:ae.length<=8)(h:SP Tryz.prog true ae bs kL [.slot 2] Q):AM.Sem Tryz.prog 212 ae bs Q:=
 oZ (keeps:=[(0,[1]),(1,[1,5]),(2,[2]),(3,[2])]) (solo:=[]) Tryz.func212 rfl hn h
def jN:RC:=
 (.seq (rR [1] [oQ 1 (.box 0),oQ 2 (.mov (.c (.int .i64 0)))]) (.seq (.seq (rR [4] [qF 3 0 1,qL 4 3]) (.block 0 (.seq (rR [4,5] [oQ 6 (.bin .eql 4 (.c (.int .i64 1))),qM 5 6]) (.cond 5 (.seq (rR [2] [oQ 2 (.mov (.c (.int .i64 0)))]) .ret) (.seq (rR [4,7] [oQ 8 (.bin .eql 4 (.c (.int .i64 0))),qM 7 8]) (.cond 7 (.seq (rR [2] [oQ 2 (.mov (.c (.int .i64 1)))]) .ret) (.seq (rR [9] [oQ 10 (.bin .eql 4 (.c (.int .i64 2))),qM 9 10]) (.cond 9 (.seq (rR [2] [oQ 2 (.mov (.c (.int .i64 2)))]) .ret) .skip)))))))) (.seq (rR [2] [oQ 2 (.mov (.c (.int .i64 3)))]) .ret)))
theorem jY(hn:ae.length<=11)(h:SP Tryz.prog true ae bs jN [.slot 2] Q):AM.Sem Tryz.prog 203 ae bs Q:=
 oZ (keeps:=[(0,[1]),(1,[4]),(2,[4,5]),(4,[4,7]),(6,[9]),(7,[2]),(5,[2]),(3,[2]),(8,[2])]) (solo:=[]) Tryz.func203 rfl hn h
def jL:RC:=
 (.seq (rR [0,1] [oQ 4 (.mov (.c (.int .i64 0)))]) (.seq (.block 0 (.seq (rR [0,1,5] [qM 6 0,qM 7 1,oQ 8 (.bin .lss 6 7),qM 5 8]) (.cond 5 (.seq (rR [4] [oQ 4 (.mov (.c (.int .i64 (-1))))]) .ret) (.seq (rR [9] [qM 10 0,qM 11 1,oQ 12 (.bin .gtr 10 11),qM 9 12]) (.cond 9 (.seq (rR [4] [oQ 4 (.mov (.c (.int .i64 1)))]) .ret) .skip))))) (.seq (rR [4] [oQ 4 (.mov (.c (.int .i64 0)))]) .ret)))
theorem jW(hn:ae.length<=13)(h:SP Tryz.prog true ae bs jL [.slot 4] Q):AM.Sem Tryz.prog 159 ae bs Q:=
 oZ (keeps:=[(0,[0,1]),(1,[0,1,5]),(3,[9]),(4,[4]),(2,[4]),(5,[4])]) (solo:=[]) Tryz.func159 rfl hn h
def kJ:RC:=
 (.seq (rR [0,1] [oQ 4 (.mov (.c (.int .i64 0)))]) (.seq (.block 0 (.seq (rR [0,1,5] [qM 6 0,qM 7 1,oQ 8 (.bin .lss 6 7),qM 5 8]) (.cond 5 (.seq (rR [4] [oQ 4 (.mov (.c (.int .i64 (-1))))]) .ret) (.seq (rR [9] [qM 10 0,qM 11 1,oQ 12 (.bin .gtr 10 11),qM 9 12]) (.cond 9 (.seq (rR [4] [oQ 4 (.mov (.c (.int .i64 1)))]) .ret) .skip))))) (.seq (rR [4] [oQ 4 (.mov (.c (.int .i64 0)))]) .ret)))
theorem kU(hn:ae.length<=13)(h:SP Tryz.prog true ae bs kJ [.slot 4] Q):AM.Sem Tryz.prog 160 ae bs Q:=
 oZ (keeps:=[(0,[0,1]),(1,[0,1,5]),(3,[9]),(4,[4]),(2,[4]),(5,[4])]) (solo:=[]) Tryz.func160 rfl hn h
def jM:RC:=
 (.seq (rR [0,1] [oQ 4 (.mov (.c (.int .i64 0)))]) (.seq (.seq (rR [0,1,5] [oQ 5 (.mov (.c (.int .i64 0)))]) (.block 0 (.loop (.seq (.seq (rR [0,1,5,16] [qM 7 5,qM 8 0,oQ 9 (.len false 8),oQ 10 (.bin .lss 7 9),qM 11 10,oG 12 11 true (.mov 5),oG 13 11 true (.mov 1),oG 14 11 true (.len false 13),oG 15 11 true (.bin .lss 12 14),oQ 16 (.pick 11 15 (.c (.bool false)))]) (.cond 16 .skip (.exit 0))) (.seq (.block 1 (.seq (.reg true [0,1,5,6] [qM 19 0,qM 20 5,qI 21 4 19 20,qA 22 4 21,qM 23 1,qM 24 5,qI 25 4 23 24,qA 26 4 25,oQ 27 (cF 161 [22,26]),oQ 6 (.take 27)]) (.seq (rR [0,1,5,6,29] [qM 28 6,oQ 29 (.bin .neq 28 (.c (.int .i64 0)))]) (.cond 29 (.seq (rR [4] [qM 30 6,qM 4 30]) .ret) .skip)))) (rR [0,1,5] [qM 17 5,oQ 18 (.bin .add 17 (.c (.int .i64 1))),qM 5 18])))))) (.seq (rR [4] [qM 31 0,oQ 32 (.len false 31),qM 33 1,oQ 34 (.len false 33),oQ 35 (cF 160 [32,34]),qM 4 35])
 .ret)))
theorem jX(hn:ae.length<=36)(h:SP Tryz.prog true ae bs jM [.slot 4] Q):AM.Sem Tryz.prog 110 ae bs Q:=
 oZ (keeps:=[(0,[0,1]),(1,[0,1,5]),(2,[0,1,5,16]),(4,[0,1,5,6]),(5,[0,1,5,6,29]),(6,[4]),(3,[0,1,5]),(7,[4])]) (solo:=[]) Tryz.func110 rfl hn h
def jK:RC:=
 (.seq (rR [0,1,2] [oQ 6 (.mov (.c (.int .i64 0)))]) (.seq (.seq (rR [0,1,2,15] [qM 8 2,oQ 9 (.bin .eql 8 (.c (.int .i64 0))),qM 10 9,oG 11 10 false (.mov 0),oG 12 10 false (.len false 11),oG 13 10 false (.mov 1),oG 14 10 false (.bin .gtr 12 13),oQ 15 (.pick 10 (.c (.bool true)) 14)]) (.cond 15 (.seq (rR [6] [oQ 6 (.mov (.c (.int .i64 (-1))))]) .ret) .skip)) (.seq (.seq (rR [0,1,2,7] [oQ 7 (.mov (.c (.int .i64 0)))]) (.block 0 (.loop (.seq (.seq (rR [0,1,2,7,23] [qM 16 7,qM 17 0,oQ 18 (.len false 17),oQ 19 (.bin .lss 16 18),qM 20 19,oG 21 20 true (.mov 1),oG 22 20 true (.bin .geq 21 (.c (.int .i64 0))),oQ 23 (.pick 20 22 (.c (.bool false)))]) (.cond 23 .skip (.exit 0))) (.seq (.block 1 (.reg true [0,1,2,7] [qM 26 0,qM 27 7,qI 28 4 26 27,qF 29 3 28,qL 30 29,qM 31 1,oQ 32 (.bin .sub 31 (.c (.int .i64 1))),qM 33 0,qM 34 7,qI 35 4 33 34,qF 36 2 35,qL 37 36,oQ 38 (.len true 37),oQ 39 (.bin .quo 38 (.c (.int .i64 8))),oQ 40 (.bin .sub 32 39),qM 41 2,oQ 42 (.bin .sub 41 (.c (.int .i64 1))),oQ 43 (cF 93 [30,40,42]),oQ 1 (.take 43)]))
 (rR [0,1,2,7] [qM 24 7,oQ 25 (.bin .add 24 (.c (.int .i64 1))),qM 7 25])))))) (.seq (rR [6] [qM 44 1,qM 6 44]) .ret))))
theorem jV(hn:ae.length<=45)(h:SP Tryz.prog true ae bs jK [.slot 6] Q):AM.Sem Tryz.prog 93 ae bs Q:=
 oZ (keeps:=[(0,[0,1,2]),(1,[0,1,2,15]),(2,[6]),(3,[0,1,2,7]),(4,[0,1,2,7,23]),(6,[0,1,2,7]),(5,[0,1,2,7]),(7,[6])]) (solo:=[]) Tryz.func93 rfl hn h
theorem fc(hn:ae.length<=9)(h:SP Tryz.prog false ae bs fj [.slot 4] Q):AM.Sem Tryz.prog 72 ae bs Q:=
 oZ (keeps:=[(0,[0,1]),(1,[4])]) (solo:=[]) Tryz.func72 rfl hn h
theorem gd(hn:ae.length<=19)(h:SP Tryz.prog false ae bs gq [.slot 4] Q):AM.Sem Tryz.prog 109 ae bs Q:=
 oZ (keeps:=[(0,[0,1]),(1,[0,1,7,8]),(2,[0,1,7,8,9]),(3,[0,1,5,7,8]),(4,[0,1,5,7,8,16]),(5,[4]),(6,[0,1,7,8]),(7,[4])]) (solo:=[]) Tryz.func109 rfl hn h
theorem r9(hn:ae.length<=17)(h:SP Tryz.prog false ae bs tq [] Q):AM.Sem Tryz.prog 182 ae bs Q:=
 oZ (keeps:=[(0,[0,1,5,6]),(1,[0,1,5,6,7]),(2,[0,1,3,5,6]),(3,[0,1,5,6,15]),(4,[0,1,5,6])]) (solo:=[]) Tryz.func182 rfl hn h
theorem vl(hn:ae.length<=26)(h:SP Tryz.prog false ae bs xR [.slot 4] Q):AM.Sem Tryz.prog 183 ae bs Q:=
 oZ (keeps:=[(0,[1,2]),(1,[1,2,9]),(2,[4]),(3,[1,15,16,17]),(4,[1,15,16,17,18]),(5,[1,6,15,16,17]),(6,[1,15,16,17,24]),(7,[4]),(8,[1,15,16,17]),(9,[4])]) (solo:=[]) Tryz.func183 rfl hn h
end Go.CK
namespace Go.AM
open Go.CK Go.RowKit
def aN{α:Type}(f:α->AV)(z k:Nat)(l:List α):Box:=.row (cellsOf (l.map f)++List.replicate ((k-l.length)*z) .top)
structure Plain{α:Type}(f:α->AV)(z:Nat):Prop where
 pos:0<z
 sz:∀x,(f x).cells.length=z
 de:∀x,∀c∈(f x).cells,c.aG=c
 flat:∀x,∀c∈(f x).cells,c.aU=true
theorem nq:∀{l:List AV} {c:AV},c∈cellsOf l->∃x∈l,c∈x.cells
 |[],_,h=>by cases h
 |x::l,c,h=>by
  rcases zZ.1 h with h|h
  .exact ⟨x,by simp,h⟩
  .obtain ⟨y,h1,h2⟩:=nq h;exact⟨y,by simp[h1],h2⟩
section
variable{α:Type}{f:α->AV}{z:Nat}
theorem Plain.len(h:Plain f z)(l:List α):(cellsOf (l.map f)).length=l.length*z:=by
 rw[bq (z:=z) λy hy=>by obtain⟨x,_,rfl⟩:=zl.1 hy;exact h.sz x,zF]
theorem Plain.mem(h:Plain f z){l:List α}{c:AV}(hc:c∈cellsOf (l.map f)):c.aG=c/\c.aU=true:=by
 obtain⟨y,h1,h2⟩:=nq hc;obtain⟨x,_,rfl⟩:=zl.1 h1;exact⟨h.de x c h2,h.flat x c h2⟩
theorem Plain.take(h:Plain f z)(l:List α)(p:List AV):(cellsOf (l.map f)++p).take (l.length*z)=cellsOf (l.map f):=by
 rw[<-h.len l];simp
theorem dy{bs:List Box}{b:Nat}{cs:List AV}(h:bs[b]? =some (.row cs)):rowAt bs b=some cs:=by
 unfold rowAt;rw[h]
theorem sX{bs:List Box}{b m k:Nat}{cs:List AV}{K:Nat->Nat->List AV->Option Nat->Prop}(h:bs[b]? =some (.row cs))(k':K m k cs (some b)):qj bs (.bsl b m k) K:=by
 simp only[qj,dy h];exact k'
theorem DX.row(hp:Plain f z){e:List (Nat×AV)}{bs:List Box}{lo:Nat}{b m k:Nat}{l l':List α}{o:Cap}{K:AV->St->Prop}(hb:bs[b]? =some (aN f z k l))(hm:m=l.length)(hk:m<=k)(hlim:m+l'.length<=4294967296)
  (h:∀k',(l++l').length<=k'->K (.bsl bs.length (l++l').length k') ⟨e,bs.set b .dead++[aN f z k' (l++l')],lo⟩):DX z ⟨e,bs,lo⟩ (.bsl b m k) (.sl o (l'.map f)) K:=by
 subst hm;refine⟨sX hb ?_⟩;refine⟨λy hy=>by obtain⟨x,_,rfl⟩:=zl.1 hy;exact hp.sz x,?_⟩
 rw[zF];refine⟨⟨hp.pos,?_,hlim,λx hx=>?_⟩,λk' hk'=>?_⟩
 .rw [zC,hp.len,zg,<-ZN];exact ZF _ (by omega)
 .rw [hp.take] at hx;exact(hp.mem hx).1
 .rw [hp.take,<-zh,<-i6,<-zw];have:=h k' (by simpa using hk')
  simp only[zC] at this;unfold aN at this;simp only[zC] at this;exact this
theorem MkN.row(hp:Plain f z)(x:α){e:List (Nat×AV)}{bs:List Box}{lo:Nat}{ik jk:IntKind}{n m:Int}{K:AV->St->Prop}(hn:0<=n/\n<=m/\m<=4294967296)(h:K (.bsl bs.length n.toNat m.toNat) ⟨e,bs++[aN f z m.toNat (List.replicate n.toNat x)],lo⟩):MkN z (f x) ⟨e,bs,lo⟩ (.int ik n) (.int jk m) K:=by
 refine⟨⟨⟨hp.pos,hn⟩,?_⟩⟩;simpa only[aN,List.map_replicate,zg] using h
theorem RS.GQ{E:Entry}{G:Gh}{s:St}{a:Act}{w:World}(h:RS E G s a w):RS E G ⟨s.env,s.bs++[.row []],s.lo⟩ a w:=by
 have:=h.reb (bs':=s.bs++[.row []]) (σ':=G.σ) id (by simp) (λ_ _=>rfl) (λb x hb=>dq rfl hb) (λb cs' hc=>by
  rw[al] at hc;split at hc
  .cases hc
  .exact ⟨cs',hc,rfl,zG _,λj x hx=>.inr ⟨hx,.inl rfl⟩⟩) (λb b' _ _ _ _ e=>e)
 exact this
theorem au.Gu(s:St)(t:Nat)(h0:aq s.env t=some (.sl .full [])):au s ⟨aM s.env t (.bsl s.bs.length 0 0),s.bs++[.row []],s.lo⟩:=λE G a w hs=>by
 have h1:=hs.GQ;have hat:(⟨s.env,s.bs++[.row []],s.lo⟩:St).at (.sl t)=some (.sl .full []):=h0;have hv:=h1.val _ _ hat;simp only[AV.aG] at hv;refine⟨G,h1.upd (q:=.sl t) hat ?_⟩;obtain⟨ad,kk,B,off,sz',e1,_,_,_,e2,_⟩:=hv.cq;have:=e2 rfl;subst this;rw[e1];exact .bsl _ _ _ _ (by simp) (zG _) (zJ _) (λh=>absurd rfl h)
theorem ai.Gu{s:St}{rs:List e7}{Q:AV->List Box->Prop}(k:Nat)(h0:aq s.env k=some (.sl .full []))(h:ai ⟨aM s.env k (.bsl s.bs.length 0 0),s.bs++[.row []],s.lo⟩ rs Q):ai s rs Q:=by
 obtain⟨s',h3,h4⟩:=h.out;exact⟨s',(au.Gu s k h0).trans h3,h4⟩
theorem fV.x9{M:Hp}{B:Nat}{L:List AV}{p:List AV}(hz:∀y∈L,y.cells.length=z)(h:Cells M B 0 (cellsOf L++p)):fV M B 0 z L:=λi hi=>by
 have hl:=bq hz;have hc:=hz _ (zd hi);refine⟨hc,λj hj=>?_⟩
 have hij:i*z+j<(cellsOf L).length:=by
  rw[hl];have:=ZF z hi;rw[Nat.succ_mul] at this;omega
 obtain⟨v,h1,h2,h3⟩:=h (i*z+j) (by rw[zC];omega)
 refine⟨v,?_,h2,?_⟩
 .rw [ZJ] at h1|-;exact h1
 .rw [ZI hij] at h3;have hg:=jv hz i hi j (by omega)
  rw[zA hij,zA hj] at hg;rw[<-yN hg];exact h3
theorem au.froze(hp:Plain f z)(s:St)(t:Nat){b m k:Nat}{l:List α}(h0:aq s.env t=some (.bsl b m k))(hb:s.bs[b]? =some (aN f z k l))(hm:m=l.length):au s ⟨aM s.env t (.sl .no (l.map f)),s.bs.set b .dead,s.lo⟩:=λE G a w hs=>by
 subst hm;have hz:∀y∈l.map f,y.cells.length=z:=λy hy=>by obtain⟨x,_,rfl⟩:=zl.1 hy;exact hp.sz x
 have hat:s.at (.sl t)=some (.bsl b l.length k):=h0;have hv0:=hs.val _ _ hat;obtain⟨ad,hv,hbl,hmk,hml,had⟩:=hv0.cd
 by_cases hk:k=0
 .subst hk;have hl:l=[]:=zL (by omega)
  subst hl
  have h1:=hs.reb (bs':=s.bs.set b .dead) (σ':=G.σ) id (by simp) (λ_ _=>rfl) (λc x hc=>eW hc) (λc cs' hc=>by
   rw[bm] at hc;split at hc
   .cases hc
   .exact ⟨cs',hc,rfl,zG _,λj x hx=>.inr ⟨hx,.inl rfl⟩⟩) (λb b' _ _ _ _ e=>e)
  refine⟨_,h1.upd (q:=.sl t) (x:=.sl .no ([].map f)) hat ?_⟩;show RV G.M G.σ _ _ (aw G.σ a w (.sl t));rw[hv];exact .flat (FV.gl (l:=[]) (B:=0) (off:=0) (sz:=z) (by simp) (zG _) (zJ _) (by simp) (λh=>absurd rfl h) (λi hi=>by cases hi))
 .have hne:cellsOf (l.map f)++List.replicate ((k-l.length)*z) .top≠[]:=λe=>by
   have:=congrArg List.length e;rw[zC,hp.len,zg,<-ZN,ZR] at this;have h2:0<(l.length+(k-l.length))*z:=Nat.mul_pos (by omega) hp.pos
   omega
  have hbc:aa s.bs b=some (cellsOf (l.map f)++List.replicate ((k-l.length)*z) .top):=da (dy hb) hne
  obtain⟨G',h1,h2,h3⟩:=hs.dead hbc (λx hx=>by
   rcases zZ.1 hx with hx|hx
   .exact (hp.mem hx).2
   .rw [(Zb.1 hx).2];rfl)
  refine⟨G',h1.upd (q:=.sl t) (x:=.sl .no (l.map f)) (y:=.bsl b l.length k) h0 ?_⟩;show RV G'.M G'.σ _ _ (aw G'.σ a w (.sl t));have hva:aw G'.σ a w (.sl t)=.slice ad l.length k:=hv;rw[hva,had hk];have:=FV.gl (M:=G'.M) (o:=.no) (l:=l.map f) (a:=some ⟨G.σ b,0,none⟩) (k:=k) (B:=G.σ b) (off:=0) (sz:=z) (by simp) (by simpa using hmk) (by first|(simpa using hml)|(have:=glim_le hml;simpa using this)) (by simp) (λ_=>rfl) (fV.x9 hz h3)
  rw[zF] at this;exact .flat this
theorem ai.froze(hp:Plain f z){s:St}{t:Nat}{b m k:Nat}{l:List α}{Q:AV->List Box->Prop}(h0:aq s.env t=some (.bsl b m k))(hb:s.bs[b]? =some (aN f z k l))(hm:m=l.length)(h:ai ⟨aM s.env t (.sl .no (l.map f)),s.bs.set b .dead,s.lo⟩ [.slot t] Q):ai s [.slot t] Q:=by
 obtain⟨s',h3,h4⟩:=h.out;exact⟨s',(au.froze hp s t h0 hb hm).trans h3,h4⟩
end
section
variable{E:Entry}{G:Gh}{s:St}{a:Act}{w:World}
end
theorem ai.slot{s:St}{t:Nat}{Q:AV->List Box->Prop}(h:Q (s.get t) s.bs):ai s [.slot t] Q:=⟨s,au.refl s,.inl h⟩
theorem GV:Plain (AV.int .i64) 1:=⟨Zz,λ_=>rfl,λx c h=>by simp[AV.cells] at h;subst h;rfl,λx c h=>by simp[AV.cells] at h;subst h;rfl⟩
def nj(v:AV)(xs:List Int):List (Int×AV):=xs.foldl (λl n=>kd l n v) []
theorem A8(v:AV):∀(l:List (Int×AV)) (n m:Int),np (kd l n v) m=if m=n then some v else np l m
 |[],n,m=>by simp only[kd,np]
 |(k,x)::l,n,m=>by
  simp only[kd]
  by_cases h:n=k
  .subst h;simp only[if_true,np]
   by_cases h2:m=n<;>simp[h2]
  .simp only[if_neg h,np]
   by_cases h2:m=k
   .subst h2;rw[if_pos rfl,if_neg (λe=>h e.symm),if_pos rfl]
   .rw [if_neg h2,if_neg h2,A8 v l n m]
theorem Je(v:AV)(xs:List Int)(n:Int):np (nj v xs) n=if n∈xs then some v else none:=by
 have:∀(xs:List Int) (l:List (Int×AV)),np (xs.foldl (λl n=>kd l n v) l) n=if n∈xs then some v else np l n:=λxs=>by
  induction xs with
  |nil=>intro l;simp
  |cons x xs ih=>
   intro l;rw[Zy,ih,A8]
   by_cases h1:n∈xs
   .simp [h1]
   .by_cases h2:n=x
    .simp [h2]
    .simp [h1,h2]
 rw[nj,this];simp[np]
theorem A5(v:AV)(xs:List Int)(n:Int):kd (nj v xs) n v=nj v (xs++[n]):=by simp[nj]
theorem Gb.set{v:AV}{xs:List Int}{n:Int}{ok:Bool}{z:AV}{K:AV->Prop}(hv:cM v=true)(h1:n∈xs->K (okR ok v true))(h2:n∉xs->K (okR ok z false)):Gb (nj v xs) n ok z K:=by
 refine⟨?_⟩;rw[Je]
 by_cases h:n∈xs
 .simp only[if_pos h];exact⟨hv,h1 h⟩
 .simp only[if_neg h];exact h2 h
theorem cells_one{α:Type}{f:α->AV}(hf:∀x,(f x).cells=[f x])(l:List α):cellsOf (l.map f)=l.map f:=by
 induction l with
 |nil=>rfl
 |cons x l ih=>rw[zQ,cellsOf,ih,hf];rfl
theorem CV{α:Type}{f:α->AV}(hf:∀x,(f x).cells=[f x]){bs:List Box}{b k i:Nat}{l:List α}{x:α}(hb:bs[b]? =some (aN f 1 k l))(hx:l[i]? =some x):aa bs b=some (l.map f++List.replicate (k-l.length) AV.top):=by
 have hrow:bs[b]? =some (.row (l.map f++List.replicate (k-l.length) AV.top)):=by
  rw[hb];simp only[aN,cells_one hf,Nat.mul_one]
 refine da (dy hrow) λe=>?_;have:=congrArg List.length e;rw[zC,zF,ZR] at this;have hi:=(zB.1 hx).1;omega
theorem ElN.one{α:Type}{f:α->AV}(hf:∀x,(f x).cells=[f x]/\(f x).aG=f x){e:List (Nat×AV)}{bs:List Box}{lo b k i:Nat}{l:List α}{x:α}{K:AV->Prop}(hb:bs[b]? =some (aN f 1 k l))(hx:l[i]? =some x)(h:K (f x)):ElN false 1 ⟨e,bs,lo⟩ (.elp b i 1 0) K:=by
 refine⟨?_⟩;have hi:=(zB.1 hx).1;simp only[St.rd,CV (λx=>(hf x).1) hb hx,Nat.mul_one,Zi];rw[List.drop_append_of_le_length (by rw[zF];omega),<-List.map_drop,zH hi,(zB.1 hx).2]
 simp only[zQ,zf,bL,(hf x).2];exact h
theorem RS.vd{α:Type}{f:α->AV}{z:Nat}(hp:Plain f z){E:Entry}{G:Gh}{s:St}{a:Act}{w:World}(hs:RS E G s a w){b k0:Nat}{l:List α}(hb:s.bs[b]? =some (aN f z k0 l)):
  ∃G',RS E G' ⟨s.env,s.bs.set b .dead,s.lo⟩ a w/\G'.σ=G.σ/\∀(m k:Nat) (v:Value),m<=l.length->RV G.M G.σ s.bs.length (.bsl b m k) v->FV G'.M (.sl .no ((l.take m).map f)) v:=by
 have hz:∀y∈l.map f,y.cells.length=z:=λy hy=>by obtain⟨x,_,rfl⟩:=zl.1 hy;exact hp.sz x
 by_cases hne:cellsOf (l.map f)++List.replicate ((k0-l.length)*z) AV.top=[]
 .have hl:l=[]:=by
   have:=congrArg List.length hne;rw[zC,hp.len,ZR] at this;have h0:=hp.pos
   cases l with
   |nil=>rfl
   |cons x l=>simp only[zY,Nat.succ_mul] at this;omega
  subst hl
  have h1:=hs.reb (bs':=s.bs.set b .dead) (σ':=G.σ) id (by simp) (λ_ _=>rfl) (λc x hc=>eW hc) (λc cs' hc=>by
   rw[bm] at hc;split at hc
   .cases hc
   .exact ⟨cs',hc,rfl,zG _,λj x hx=>.inr ⟨hx,.inl rfl⟩⟩) (λb b' _ _ _ _ e=>e)
  refine⟨_,h1,rfl,λm k v hm hv=>?_⟩;simp only[ZR,Nat.le_zero] at hm;subst hm;obtain⟨ad,rfl,_,_,_,_⟩:=hv.cd;exact FV.gl (l:=[]) (B:=0) (off:=0) (sz:=z) (by simp) (zJ _) (zJ _) (by simp) (λh=>absurd rfl h) (λi hi=>by cases hi)
 .have hbc:aa s.bs b=some (cellsOf (l.map f)++List.replicate ((k0-l.length)*z) .top):=da (dy hb) hne
  obtain⟨G',h1,h2,h3⟩:=hs.dead hbc (λx hx=>by
   rcases zZ.1 hx with hx|hx
   .exact (hp.mem hx).2
   .rw [(Zb.1 hx).2];rfl)
  refine⟨G',h1,h2,λm k v hm hv=>?_⟩;obtain⟨ad,rfl,_,hmk,hml,had⟩:=hv.cd;have he:=nG (fV.x9 hz h3) 0 m (by simpa using hm)
  simp only[Nat.zero_mul,Zi,yU,<-List.map_take] at he;have hlen:((l.take m).map f).length=m:=by simp;omega
  have:=FV.gl (M:=G'.M) (o:=.no) (l:=(l.take m).map f) (a:=ad) (k:=k) (B:=G.σ b) (off:=0) (sz:=z) (by simp) (by omega) (by rw [hlen];first|exact hml|exact glim_le hml) (by simp) (λh0=>had (λe=>by
   subst e;have:m=0:=by omega
   subst this;simp at h0)) he
  rw[hlen] at this;exact this
theorem au.nZ{α:Type}{f:α->AV}{z:Nat}(hp:Plain f z)(s:St)(c i:Nat){cs:List AV}{b m k k0:Nat}{l:List α}(h0:s.bs[c]? =some (.cells cs))(hi:cs[i]? =some (.bsl b m k))(hb:s.bs[b]? =some (aN f z k0 l))(hm:m<=l.length):au s ⟨s.env,(s.bs.set b .dead).set c (.cells (cs.set i (.sl .no ((l.take m).map f)))),s.lo⟩:=λE G a w hs=>by
 have hcb:c≠b:=λe=>by subst e;rw[h0] at hb;cases hb
 have hbc:aa s.bs c=some cs:=by simp only[aa,h0];rfl
 have hbc':aa (s.bs.set b .dead) c=some cs:=by rw[bm,if_neg hcb];exact hbc
 have hat:s.at (.bx c i)=some (.bsl b m k):=by simp only[St.at,hbc,ZH];exact hi
 have hv0:=hs.val _ _ hat;have hde:(AV.bsl b m k).aG=.bsl b m k:=rfl;rw[hde] at hv0;obtain⟨G',h1,hσ,hth⟩:=hs.vd hp hb;have hfv:=hth m k _ hm hv0;have hat':(⟨s.env,s.bs.set b .dead,s.lo⟩:St).at (.bx c i)=some (.bsl b m k):=by simp only[St.at,hbc',ZH];exact hi
 have h2:=h1.upd (q:=.bx c i) (x:=.sl .no ((l.take m).map f)) hat' (by
  show RV G'.M G'.σ _ _ (aw G'.σ a w (.bx c i));have hva:aw G'.σ a w (.bx c i)=aw G.σ a w (.bx c i):=by simp only[aw,hσ]
  rw[hva];exact .flat hfv)
 refine⟨G',?_⟩;have e:(⟨s.env,s.bs.set b .dead,s.lo⟩:St).upd (.bx c i) (.sl .no ((l.take m).map f))=⟨s.env,(s.bs.set b .dead).set c (.cells (cs.set i (.sl .no ((l.take m).map f)))),s.lo⟩:=by simp only[St.upd,hbc',St.aF]
 rw[<-e];exact h2
theorem ai.nZ{α:Type}{f:α->AV}{z:Nat}(hp:Plain f z){s:St}(c i:Nat){cs:List AV}{b m k k0:Nat}{l:List α}{rs:List e7}{Q:AV->List Box->Prop}(h0:s.bs[c]? =some (.cells cs))(hi:cs[i]? =some (.bsl b m k))(hb:s.bs[b]? =some (aN f z k0 l))(hm:m<=l.length)(h:ai ⟨s.env,(s.bs.set b .dead).set c (.cells (cs.set i (.sl .no ((l.take m).map f)))),s.lo⟩ rs Q):ai s rs Q:=by
 obtain⟨s',h3,h4⟩:=h.out;exact⟨s',(au.nZ hp s c i h0 hi hb hm).trans h3,h4⟩
theorem IA.no{l:List AV}{K:Bool->Prop}(h:∀b,(b=true->l=[])->K b):IA l K:=⟨λhl=>h false (λe=>by cases e),λhl b=>h b λ_=>hl⟩
end Go.AM
namespace Go.CK
open Go.RowKit
inductive Tm where
 |mk (kind num:Int) (name:ByteArray) (args:List Tm)
namespace Tm
def kind:Tm->Int|.mk k _ _ _=>k
def num:Tm->Int|.mk _ n _ _=>n
def name:Tm->ByteArray|.mk _ _ s _=>s
def args:Tm->List Tm|.mk _ _ _ l=>l
mutual
def beq:Tm->Tm->Bool
 |.mk k n s l,.mk k' n' s' l'=>decide (k=k')&&(decide (n=n')&&(decide (s=s')&&DK l l'))
def DK:List Tm->List Tm->Bool
 |[],[]=>true
 |a::l,b::m=>beq a b&&DK l m
 |_,_=>false
end
mutual
theorem beq_iff:∀a b:Tm,beq a b=true↔a=b
 |.mk k n s l,.mk k' n' s' l'=>by
  simp only[beq,zD,decide_eq_true_eq,Cg l l',Tm.mk.injEq]
theorem Cg:∀l m:List Tm,DK l m=true↔l=m
 |[],[]=>by simp[DK]
 |[],_::_=>by simp[DK]
 |_::_,[]=>by simp[DK]
 |a::l,b::m=>by simp[DK,beq_iff a b,Cg l m]
end
instance:DecidableEq Tm:=λa b=>decidable_of_iff (beq a b=true) (beq_iff a b)
mutual
def nodes:Tm->Nat
 |.mk _ _ _ l=>aD l+1
def aD:List Tm->Nat
 |[]=>0
 |a::l=>nodes a+aD l
end
end Tm
mutual
theorem Tm.bu{p:Tm->Prop}(h:∀k n s l,(∀t∈l,p t)->p (.mk k n s l)):∀t,p t
 |.mk k n s l=>h k n s l (Tm.Bt h l)
theorem Tm.Bt{p:Tm->Prop}(h:∀k n s l,(∀t∈l,p t)->p (.mk k n s l)):∀l:List Tm,∀t∈l,p t
 |[],_,ht=>by cases ht
 |a::l,t,ht=>by
  exact(zI.1 ht).elim (λe=>e▸Tm.bu h a) (λh1=>Tm.Bt h l t h1)
end
inductive RTm (H:Hp):List Value->Tm->Prop
 |mk (k n:Int) (s:ByteArray) (a:Option Addr) (cap:Nat) (args:List Tm) (es:Nat->List Value) (bo:Nat×Nat)
  (hk:cz k) (hn:cz n) (hs:s.size<=lim) (hl:args.length<=lim) (hc:args.length<=cap) (ha:0<args.length->a=some ⟨bo.1,bo.2,none⟩)
  (hsz:∀i,i<args.length->(es i).length=4) (hcell:∀i,i<args.length->∀j x,(es i)[j]? =some x->H bo.1 (bo.2+i*4+j)=some x)
  (hr:∀i (h:i<args.length),RTm H (es i) args[i]):
  RTm H [.int .i64 k,.int .i64 n,.string s,.slice a args.length cap] (.mk k n s args)
abbrev F9(H:Hp)(a:Option Addr)(l:List Tm):Prop:=Sl H 4 (RTm H) a l
theorem RTm.inv{H:Hp}{cs:List Value}{k n:Int}{s:ByteArray}{l:List Tm}(h:RTm H cs (.mk k n s l)):
  ∃a cap,cs=[.int .i64 k,.int .i64 n,.string s,.slice a l.length cap]/\cz k/\cz n/\s.size<=lim/\l.length<=cap/\F9 H a l:=by
 cases h with
 |mk k n s a cap args es bo hk hn hs hl hc ha hsz hcell hr=>
  exact⟨a,cap,rfl,hk,hn,hs,hc,⟨hl,λi hi=>⟨bo.1,bo.2,es i,ha (by omega),hsz i hi,hcell i hi,hr i hi⟩⟩⟩
theorem RTm.intro{H:Hp}{k n:Int}{s:ByteArray}{a:Option Addr}{cap:Nat}{l:List Tm}(hk:cz k)(hn:cz n)(hs:s.size<=lim)(hc:l.length<=cap)(h:F9 H a l):
  RTm H [.int .i64 k,.int .i64 n,.string s,.slice a l.length cap] (.mk k n s l):=by
 by_cases h0:0<l.length
 .obtain ⟨b,o,ha⟩:=h.addr h0;subst ha
  have hx:∀i,∃cs:List Value,i<l.length->cs.length=4/\(∀j x,cs[j]? =some x->H b (o+i*4+j)=some x)/\∀hi:i<l.length,RTm H cs l[i]:=by
   intro i
   by_cases hi:i<l.length
   .obtain ⟨b',o',cs,h1,h2,h3,h4⟩:=h.at_ i hi;simp only[zO,Addr.mk.injEq,and_true] at h1;obtain⟨rfl,rfl⟩:=h1;exact⟨cs,λ_=>⟨h2,h3,λ_=>h4⟩⟩
   .exact ⟨[],λe=>(hi e).elim⟩
  exact .mk k n s _ cap l (λi=>(hx i).choose) (b,o) hk hn hs h.le hc (λ_=>rfl) (λi hi=>((hx i).choose_spec hi).1) (λi hi=>((hx i).choose_spec hi).2.1) (λi hi=>((hx i).choose_spec hi).2.2 hi)
 .exact .mk k n s a cap l (λ_=>[]) (0,0) hk hn hs h.le hc (λe=>(h0 e).elim) (λi hi=>by omega) (λi hi=>by omega) (λi hi=>by omega)
theorem RTm.one{H:Hp}{cs:List Value}{t:Tm}(h:RTm H cs t):∀u∈cs,u.oneCell'=true:=by
 cases h;simp[Value.oneCell']
end Go.CK
namespace Go.CK
open Go.RowKit
def Ga(_:Hp)(c:List Value)(n:Int):Prop:=c=[.int .i64 n]/\cz n
def RSl{α:Type}(sz:Nat)(R:Hp->List Value->α->Prop)(H:Hp)(c:List Value)(l:List α):Prop:=∃a k,c=[.slice a l.length k]/\l.length<=k/\Sl H sz (R H) a l
@[ext] structure At where
 name:ByteArray
 args:List Tm
deriving DecidableEq
def RAt(H:Hp)(c:List Value)(x:At):Prop:=∃a1 k1,c=[.string x.name,.slice a1 x.args.length k1]/\x.name.size<=lim/\x.args.length<=k1/\Sl H 4 (RTm H) a1 x.args
theorem RAt.one{H:Hp}{c:List Value}{x:At}(h:RAt H c x):∀u∈c,u.oneCell'=true:=by
 obtain⟨a1,k1,rfl,_h0,_h1,_h2⟩:=h;simp[Value.oneCell']
@[ext] structure Gl where
 op:Int
 name:ByteArray
 args:List Tm
deriving DecidableEq
@[ext] structure Dc where
 name:ByteArray
 arity:Int
deriving DecidableEq
@[ext] structure Rl where
 name:ByteArray
 keep:List At
 remove:List At
 guard:List Gl
 body:List Gl
 vars:Int
deriving DecidableEq
@[ext] structure Pg where
 decls:List Dc
 rules:List Rl
deriving DecidableEq
@[ext] structure Oc where
 rule:Int
 head:Int
 kept:Bool
deriving DecidableEq
@[ext] structure Bd where
 var:Int
 term:Tm
deriving DecidableEq
def RBd(H:Hp)(c:List Value)(x:Bd):Prop:=∃c1,c=[.int .i64 x.var]++c1/\cz x.var/\RTm H c1 x.term
theorem RBd.one{H:Hp}{c:List Value}{x:Bd}(h:RBd H c x):∀u∈c,u.oneCell'=true:=by
 obtain⟨c1,rfl,_h0,_h1⟩:=h;have q0:=_h1.one;intro u hu;simp only[zZ,zI,yY,or_false] at hu;rcases hu with hu|hu
 all_goals first|exact q0 u hu|(subst hu;rfl)|(rcases hu with hu|hu<;>subst hu<;>rfl)|(rcases hu with hu|hu|hu<;>subst hu<;>rfl)
@[ext] structure It where
 id:Int
 atom:At
deriving DecidableEq
def RIt(H:Hp)(c:List Value)(x:It):Prop:=∃c1,c=[.int .i64 x.id]++c1/\cz x.id/\RAt H c1 x.atom
theorem RIt.one{H:Hp}{c:List Value}{x:It}(h:RIt H c x):∀u∈c,u.oneCell'=true:=by
 obtain⟨c1,rfl,_h0,_h1⟩:=h;have q0:=_h1.one;intro u hu;simp only[zZ,zI,yY,or_false] at hu;rcases hu with hu|hu
 all_goals first|exact q0 u hu|(subst hu;rfl)|(rcases hu with hu|hu<;>subst hu<;>rfl)|(rcases hu with hu|hu|hu<;>subst hu<;>rfl)
@[ext] structure Ft where
 id:Int
 atom:At
 just:List Int
deriving DecidableEq
@[ext] structure Fr where
 rule:Int
 ids:List Int
deriving DecidableEq
@[ext] structure Fm where
 goal:Gl
 id:Int
 occ:Int
deriving DecidableEq
@[ext] structure Ev where
 kind:Int
 id:Int
 occ:Int
 rule:Int
 ids:List Int
deriving DecidableEq
@[ext] structure Pl where
 occ:Oc
 order:List Int
 known:List (List Int)
 tests:List (List Int)
deriving DecidableEq
@[ext] structure Ac where
 name:ByteArray
 arity:Int
 positions:List Int
deriving DecidableEq
def RAc(H:Hp)(c:List Value)(x:Ac):Prop:=∃a1 k1,c=[.string x.name,.int .i64 x.arity,.slice a1 x.positions.length k1]/\x.name.size<=lim/\cz x.arity/\x.positions.length<=k1/\Sl H 1 (Ga H) a1 x.positions
theorem RAc.one{H:Hp}{c:List Value}{x:Ac}(h:RAc H c x):∀u∈c,u.oneCell'=true:=by
 obtain⟨a1,k1,rfl,_h0,_h1,_h2,_h3⟩:=h;simp[Value.oneCell']
@[ext] structure Ky where
 name:ByteArray
 arity:Int
 positions:List Int
deriving DecidableEq
@[ext] structure Ak where
 rule:Int
 head:Int
 done:List Int
deriving DecidableEq
@[ext] structure Ct where
 rules:List Int
 tried:Int
 goals:Int
 steps:Int
deriving DecidableEq
end Go.CK
