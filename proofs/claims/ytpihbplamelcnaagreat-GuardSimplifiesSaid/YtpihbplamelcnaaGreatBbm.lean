/-
  Texts of this aZ joined (wip/gen/bundle.py),those declarations only that are needed:RcGua GdA GdB GdC GdD GdE GdF GdG GdH. By an AI agent.
-/
import Derived.Test.YtpihbplamelcnaaGreatBbl
set_option linter.unusedSimpArgs false
set_option linter.unusedVariables false
set_option maxRecDepth 100000
namespace Go.CK
open Go.AM Go.Proofs
variable{vals:List AV}{bs:List Box}{Q:AV->List Box->Prop}
def rO:RC:=
 (.seq (rR [0] [oQ 2 (.mov (.c (.sl .full []))),oQ 3 (.mov (.c (.int .i64 0)))]) (.seq (rR [0,4] [oQ 4 (.mov (.c (.sl .full [])))]) (.seq (.seq (rR [4,7,8,9] [qM 7 0,oQ 8 (.len false 7),oQ 9 (.mov (.c (.int .i64 0)))]) (.block 0 (.loop (.seq (rR [4,7,8,9,10] [oQ 10 (.bin .lss 9 8)]) (.seq (.cond 10 .skip (.exit 0)) (.seq (.block 1 (.seq (rR [4,6,7,8,9] [qI 11 3 7 9,qA 12 3 11,oQ 6 (.box (.c (.agg [(.int .i64 0),(.str ⟨⟨[]⟩⟩),(.sl .full [])]))),oN (.store 3 6 12)]) (.seq (rR [4,6,7,8,9,14] [qA 13 3 6,oQ 14 (cF 29 [13])]) (.block 2 (.seq (rR [4,6,7,8,9,14,15] [oQ 16 (.bin .eql 14 (.c (.int .i64 2))),qM 15 16]) (.cond 15 (.seq (rR [2,3] [oQ 2 (.mov (.c (.sl .full []))),oQ 3 (.mov (.c (.int .i64 2)))]) .ret) (.seq (rR [4,6,7,8,9,17] [oQ 18 (.bin .eql 14 (.c (.int .i64 0))),qM 17 18]) (.cond 17 (.seq (rR [4,6,7,8,9,22] [oQ 19 (.more .see [4]),oQ 20 (.z6 (.func 31) [] [6]),oQ 21 (cF 30 [19,20]),oQ 22 (.un .not 21)])
 (.cond 22 (rR [4,7,8,9] [qM 23 4,qA 24 3 6,oQ 25 (.aM 3 [24]),oQ 26 (.append 3 23 25),qM 4 26]) .skip)) .skip)))))))) (rR [4,7,8,9] [oQ 27 (.bin .add 9 (.c (.int .i64 1))),qM 9 27]))))))) (.seq (.seq (rR [4,30] [oQ 28 (.more .see [4]),oQ 29 (.len false 28),oQ 30 (.bin .eql 29 (.c (.int .i64 0)))]) (.cond 30 (.seq (rR [2,3] [oQ 2 (.mov (.c (.sl .full []))),oQ 3 (.mov (.c (.int .i64 1)))]) .ret) .skip)) (.seq (rR [2,3] [qM 31 4,qM 2 31,oQ 3 (.mov (.c (.int .i64 0)))]) .ret)))))
theorem r6(hn:vals.length<=32)(h:SP Tryz.prog true vals bs rO [.slot 2,.slot 3] Q):AM.Sem Tryz.prog 10 vals bs Q:=
 oZ (keeps:=[(0,[0]),(1,[0,4]),(2,[4,7,8,9]),(3,[4,7,8,9,10]),(4,[4,6,7,8,9]),(5,[4,6,7,8,9,14]),(6,[4,6,7,8,9,14,15]),(8,[4,6,7,8,9,17]),(9,[4,6,7,8,9,22]),(10,[4,7,8,9]),(7,[2,3]),(11,[4,7,8,9]),(12,[4,30]),(13,[2,3]),(14,[2,3]),(1000000,[19,28])]) (solo:=[]) Tryz.func10 rfl hn h
def pN:RC:=
 (.seq (rR [1,2] [oQ 2 (.box 0),oQ 3 (.mov (.c (.bool false)))]) (.seq (rR [3] [qA 4 3 2,qA 5 3 1,oQ 6 (cF 32 [4,5]),qM 3 6]) .ret))
def dj:RC:=
 (.seq (rR [0,1] [oQ 4 (.mov (.c (.bool false)))]) (.seq (rR [4] [qM 5 0,qM 6 1,oQ 7 (cF 61 [5,6]),oQ 8 (.bin .geq 7 (.c (.int .i64 0))),qM 4 8]) .ret))
def dI:RC:=
 (.seq (rR [0,1] [oQ 4 (.mov (.c (.int .i64 0)))]) (.seq (.seq (rR [0,1,7,8] [qM 6 0,oQ 7 (.len false 6),oQ 8 (.mov (.c (.int .i64 0)))]) (.block 0 (.loop (.seq (rR [0,1,7,8,9] [oQ 9 (.bin .lss 8 7)]) (.seq (.cond 9 .skip (.exit 0)) (.seq (.block 1 (.seq (rR [0,1,5,7,8] [qM 10 8,qM 5 10]) (.seq (rR [0,1,5,7,8,16] [qM 11 1,qM 12 0,qM 13 5,qI 14 3 12 13,qA 15 3 14,oQ 16 (.fp 11 [15])]) (.cond 16 (.seq (rR [4] [qM 17 5,qM 4 17]) .ret) .skip)))) (rR [0,1,7,8] [oQ 18 (.bin .add 8 (.c (.int .i64 1))),qM 8 18]))))))) (.seq (rR [4] [oQ 4 (.mov (.c (.int .i64 (-1))))]) .ret)))
def vU:RC:=
 (.seq (rR [1,2] [oQ 2 (.box 0),oQ 4 (.mov (.c (.sl .full [])))]) (.seq (rR [1,2,5,6] [qA 12 6 2,oQ 13 (cF 40 [12]),oQ 14 (.eff .mkM []),qM 5 13,qM 6 14]) (.seq (.seq (rR [2,5,6,15,16,17] [qM 15 1,oQ 16 (.len false 15),oQ 17 (.mov (.c (.int .i64 0)))]) (.block 0 (.loop (.seq (rR [2,5,6,15,16,17,18] [oQ 18 (.bin .lss 17 16)]) (.seq (.cond 18 .skip (.exit 0)) (.seq (.block 1 (.seq (rR [2,5,6,8,15,16,17] [qI 19 1 15 17,qL 20 19,qM 8 20]) (rR [2,5,6,15,16,17] [qM 21 6,qM 22 5,qM 23 8,oQ 24 (cF 41 [21,22,23])]))) (rR [2,5,6,15,16,17] [oQ 25 (.bin .add 17 (.c (.int .i64 1))),qM 17 25]))))))) (.seq (rR [2,6,9] [oQ 9 (.mov (.c (.sl .full [])))]) (.seq (.seq (rR [6,9,27,28,29] [qF 26 3 2,qL 27 26,oQ 28 (.len false 27),oQ 29 (.mov (.c (.int .i64 0)))]) (.block 2 (.loop (.seq (rR [6,9,27,28,29,30] [oQ 30 (.bin .lss 29 28)]) (.seq
 (.cond 30 .skip (.exit 2)) (.seq (.block 3 (.seq (rR [6,9,10,11,27,28,29] [qM 31 29,qI 32 3 27 29,qA 33 3 32,oQ 11 (.box (.c (.agg [(.int .i64 0),(.str ⟨⟨[]⟩⟩),(.sl .full [])]))),qM 10 31,oN (.store 3 11 33)]) (.seq (rR [6,9,10,27,28,29,36] [qM 34 6,qA 35 3 11,oQ 36 (cF 42 [34,35])]) (.cond 36 (rR [6,9,27,28,29] [qM 37 9,qM 38 10,oQ 39 (.aM 1 [38]),oQ 40 (.append 1 37 39),qM 9 40]) .skip)))) (rR [6,9,27,28,29] [oQ 41 (.bin .add 29 (.c (.int .i64 1))),qM 29 41]))))))) (.seq (rR [4] [qM 42 9,qM 4 42]) .ret))))))
theorem wo(hn:vals.length<=43)(h:SP Tryz.prog true vals bs vU [.slot 4] Q):AM.Sem Tryz.prog 16 vals bs Q:=
 oZ (keeps:=[(0,[1,2]),(1,[1,2,5,6]),(2,[2,5,6,15,16,17]),(3,[2,5,6,15,16,17,18]),(4,[2,5,6,8,15,16,17]),(5,[2,5,6,15,16,17]),(6,[2,5,6,15,16,17]),(7,[2,6,9]),(8,[6,9,27,28,29]),(9,[6,9,27,28,29,30]),(10,[6,9,10,11,27,28,29]),(11,[6,9,10,27,28,29,36]),(12,[6,9,27,28,29]),(13,[6,9,27,28,29]),(14,[4])]) (solo:=[]) Tryz.func16 rfl hn h
def uG:RC:=
 (.seq (rR [0,1] [oQ 4 (.mov (.c (.bool false)))]) (.seq (.seq (rR [0,1,14] [qM 7 1,oQ 8 (.bin .lss 7 (.c (.int .i64 0))),qM 9 8,oG 10 9 false (.mov 1),oG 11 9 false (.mov 0),oG 12 9 false (.len false 11),oG 13 9 false (.bin .geq 10 12),oQ 14 (.pick 9 (.c (.bool true)) 13)]) (.cond 14 (.seq (rR [4] [oQ 4 (.mov (.c (.bool false)))]) .ret) .skip)) (.seq (.seq (rR [0,1,15,16,17] [qM 15 0,oQ 16 (.len false 15),oQ 17 (.mov (.c (.int .i64 0)))]) (.block 0 (.loop (.seq (rR [0,1,15,16,17,18] [oQ 18 (.bin .lss 17 16)]) (.seq (.cond 18 .skip (.exit 0)) (.seq (.block 1 (.seq (rR [0,1,5,6,15,16,17] [qM 19 17,qI 20 3 15 17,qA 21 3 20,oQ 6 (.box (.c (.agg [(.int .i64 0),(.str ⟨⟨[]⟩⟩),(.sl .full [])]))),qM 5 19,oN (.store 3 6 21)]) (.seq (.reg true [0,1,15,16,17,46] [oQ 22 (.take 5),oQ 23 (.take 1),oQ 24 (.bin .neq 22 23),oQ 25 (.take 24),oG 26 25 true (.load true 3 6),oG 27 25 true (.take 0),oG 28 25 true (.take 1),oG 29 25 true (.idx 3 27 28),oG 30 25 true (.load true 3 29),oG 31 25 true (cF 44 [26,30]),oQ 32 (.pick 25 31 (.c (.bool false))),oQ 33 (.take 32),oG 34 33 true (.take 5),oG 35 33 true (.take 1),oG 36 33 true (.bin .lss 34 35),oG 37 33 true (.take 36),oG 38 37 false (.take 0),oG 39 37 false (.take 1),oG 40 37 false (.idx 3 38 39),oG 41 37 false (.load true 3 40),oG 42 37 false (.load true 3 6),oG 43 37 false (cF 44 [41,42]),oG 44 37 false (.un .not 43),oG 45 33 true (.pick 37 (.c (.bool true)) 44),oQ 46 (.pick 33 45 (.c (.bool false)))])
 (.cond 46 (.seq (rR [4] [oQ 4 (.mov (.c (.bool false)))]) .ret) .skip)))) (rR [0,1,15,16,17] [oQ 47 (.bin .add 17 (.c (.int .i64 1))),qM 17 47]))))))) (.seq (rR [4] [oQ 4 (.mov (.c (.bool true)))]) .ret))))
theorem nG(hn:vals.length<=48)(h:SP Tryz.prog true vals bs uG [.slot 4] Q):AM.Sem Tryz.prog 21 vals bs Q:=
 oZ (keeps:=[(0,[0,1]),(1,[0,1,14]),(2,[4]),(3,[0,1,15,16,17]),(4,[0,1,15,16,17,18]),(5,[0,1,5,6,15,16,17]),(6,[0,1,15,16,17,46]),(7,[4]),(8,[0,1,15,16,17]),(9,[4])]) (solo:=[]) Tryz.func21 rfl hn h
def vV:RC:=
 (.seq (rR [1,2] [oQ 2 (.box 0),oQ 4 (.mov (.c (.sl .full [])))]) (.seq (rR [1,2,5,6] [qA 13 6 2,oQ 14 (cF 40 [13]),oQ 15 (.eff .mkM []),qM 5 14,qM 6 15]) (.seq (rR [1,2,5,6,7] [qF 16 3 2,qL 17 16,oQ 18 (.len false 17),oQ 19 (.eff (.mkB 1 (.bool false)) [18,18]),qM 7 19]) (.seq (rR [1,2,5,6,7,8] [qM 20 1,oQ 21 (.len false 20),oQ 22 (.bin .add 21 (.c (.int .i64 1))),oQ 23 (.mk 1 (.sl .full []) (.c (.int .i64 0)) 22),qM 8 23]) (.seq (rR [1,2,5,6,7,8,9] [oQ 9 (.mov (.c (.int .i64 0)))]) (.block 0 (.loop (.seq (.block 1 (.seq (rR [1,2,5,6,7,8,9,10] [oQ 10 (.mov (.c (.sl .full [])))]) (.seq (.seq (rR [1,2,5,6,7,8,9,10,27,28,29] [qF 26 3 2,qL 27 26,oQ 28 (.len false 27),oQ 29 (.mov (.c (.int .i64 0)))]) (.block 2 (.loop (.seq (rR [1,2,5,6,7,8,9,10,27,28,29,30] [oQ 30 (.bin .lss 29 28)]) (.seq (.cond 30 .skip (.exit 2)) (.seq
 (.block 3 (.seq (rR [1,2,5,6,7,8,9,10,11,12,27,28,29] [qM 31 29,qI 32 3 27 29,qA 33 3 32,oQ 12 (.box (.c (.agg [(.int .i64 0),(.str ⟨⟨[]⟩⟩),(.sl .full [])]))),qM 11 31,oN (.store 3 12 33)]) (.seq (rR [1,2,5,6,7,8,9,10,11,27,28,29,43] [qM 34 7,qM 35 11,qI 36 1 34 35,qL 37 36,oQ 38 (.un .not 37),qM 39 38,oG 40 39 true (.mov 6),oG 41 39 true (.load true 3 12),oG 42 39 true (cF 42 [40,41]),oQ 43 (.pick 39 42 (.c (.bool false)))]) (.cond 43 (.seq (rR [1,2,5,6,7,8,9,10,11,27,28,29] [qM 44 7,qM 45 11,qI 46 1 44 45,oN (.store 1 46 (.c (.bool true)))]) (rR [1,2,5,6,7,8,9,10,27,28,29] [qM 47 10,qM 48 11,oQ 49 (.aM 1 [48]),oQ 50 (.append 1 47 49),qM 10 50])) .skip)))) (rR [1,2,5,6,7,8,9,10,27,28,29] [oQ 51 (.bin .add 29 (.c (.int .i64 1))),qM 29 51]))))))) (.seq (rR [1,2,5,6,7,8,9] [qM 52 8,qM 53 10,oQ 54 (.aM 1 [53]),oQ 55 (.append 1 52 54),qM 8 55])
 (.seq (.seq (rR [1,2,5,6,7,8,9,59] [qM 56 9,qM 57 1,oQ 58 (.len false 57),oQ 59 (.bin .eql 56 58)]) (.cond 59 (.seq (rR [4] [qM 60 8,qM 4 60]) .ret) .skip)) (rR [1,2,5,6,7,8,9] [qM 61 6,qM 62 5,qM 63 1,qM 64 9,qI 65 1 63 64,qL 66 65,oQ 67 (cF 41 [61,62,66])])))))) (rR [1,2,5,6,7,8,9] [qM 24 9,oQ 25 (.bin .add 24 (.c (.int .i64 1))),qM 9 25])))))))))
theorem wq(hn:vals.length<=68)(h:SP Tryz.prog true vals bs vV [.slot 4] Q):AM.Sem Tryz.prog 19 vals bs Q:=
 oZ (keeps:=[(0,[1,2]),(1,[1,2,5,6]),(2,[1,2,5,6,7]),(3,[1,2,5,6,7,8]),(4,[1,2,5,6,7,8,9]),(6,[1,2,5,6,7,8,9,10]),(7,[1,2,5,6,7,8,9,10,27,28,29]),(8,[1,2,5,6,7,8,9,10,27,28,29,30]),(9,[1,2,5,6,7,8,9,10,11,12,27,28,29]),(10,[1,2,5,6,7,8,9,10,11,27,28,29,43]),(11,[1,2,5,6,7,8,9,10,11,27,28,29]),(12,[1,2,5,6,7,8,9,10,27,28,29]),(13,[1,2,5,6,7,8,9,10,27,28,29]),(14,[1,2,5,6,7,8,9]),(15,[1,2,5,6,7,8,9,59]),(16,[4]),(17,[1,2,5,6,7,8,9]),(5,[1,2,5,6,7,8,9]),(1000000,[19])]) (solo:=[]) Tryz.func19 rfl hn h
def nL:RC:=
 (.seq (rR [0,3] [oQ 3 (.box 1),oQ 4 (.mov (.c (.bool false)))]) (.seq (.seq (rR [0,8,9,10] [qA 7 3 3,oQ 8 (cF 72 [7]),oQ 9 (.len false 8),oQ 10 (.mov (.c (.int .i64 0)))]) (.block 0 (.loop (.seq (rR [0,8,9,10,11] [oQ 11 (.bin .lss 10 9)]) (.seq (.cond 11 .skip (.exit 0)) (.seq (.block 1 (.seq (rR [0,6,8,9,10] [qI 12 1 8 10,qL 13 12,qM 6 13]) (.seq (rR [0,8,9,10,17] [qM 14 0,qM 15 6,oQ 16 (.eff (.getM false (.bool false)) [14,15]),oQ 17 (.un .not 16)]) (.cond 17 (.seq (rR [4] [oQ 4 (.mov (.c (.bool false)))]) .ret) .skip)))) (rR [0,8,9,10] [oQ 18 (.bin .add 10 (.c (.int .i64 1))),qM 10 18]))))))) (.seq (rR [4] [oQ 4 (.mov (.c (.bool true)))]) .ret)))
def oi:RC:=
 (.seq (.seq (rR [0,1,2,15] [qM 8 2,oQ 9 (.bin .lss 8 (.c (.int .i64 0))),qM 10 9,oG 11 10 false (.mov 2),oG 12 10 false (.mov 1),oG 13 10 false (.len false 12),oG 14 10 false (.bin .geq 11 13),oQ 15 (.pick 10 (.c (.bool true)) 14)]) (.cond 15 .ret .skip)) (.seq (rR [0,20,21,22] [qM 16 1,qM 17 2,qI 18 2 16 17,qA 19 2 18,oQ 20 (cF 71 [19]),oQ 21 (.len false 20),oQ 22 (.mov (.c (.int .i64 0)))]) (.block 0 (.loop (.seq (rR [0,20,21,22,23] [oQ 23 (.bin .lss 22 21)]) (.seq (.cond 23 .skip (.exit 0)) (.seq (.block 1 (.seq (rR [0,7,20,21,22] [qI 24 1 20 22,qL 25 24,qM 7 25]) (rR [0,20,21,22] [qM 26 0,qM 27 7,oN (.eff .x8 [26,27,(.c (.bool true))])]))) (rR [0,20,21,22] [oQ 28 (.bin .add 22 (.c (.int .i64 1))),qM 22 28]))))))))
def vT:RC:=
 (.seq (rR [1] [oQ 1 (.box 0),oQ 2 (.mov (.c (.sl .full [])))]) (.seq (rR [1,3] [qA 4 6 1,oQ 5 (cF 70 [4]),oQ 6 (.mk 2 (.agg [(.str ⟨⟨[]⟩⟩),(.sl .full [])]) (.c (.int .i64 0)) 5),qM 3 6]) (.seq (rR [1,3] [qM 7 3,qF 8 1 1,qL 9 8,oQ 10 (.append 2 7 9),qM 3 10]) (.seq (rR [2] [qM 11 3,qF 12 2 1,qL 13 12,oQ 14 (.append 2 11 13),qM 2 14]) .ret))))
theorem wm(hn:vals.length<=15)(h:SP Tryz.prog true vals bs vT [.slot 2] Q):AM.Sem Tryz.prog 40 vals bs Q:=
 oZ (keeps:=[(0,[1]),(1,[1,3]),(2,[1,3]),(3,[2])]) (solo:=[]) Tryz.func40 rfl hn h
def vS:RC:=
 (.seq (rR [1] [oQ 1 (.box 0),oQ 2 (.mov (.c (.int .i64 0)))]) (.seq (rR [2] [qF 3 1 1,qL 4 3,oQ 5 (.len false 4),qF 6 2 1,qL 7 6,oQ 8 (.len false 7),oQ 9 (.bin .add 5 8),qM 2 9]) .ret))
theorem wj(hn:vals.length<=10)(h:SP Tryz.prog true vals bs vS [.slot 2] Q):AM.Sem Tryz.prog 70 vals bs Q:=
 oZ (keeps:=[(0,[1]),(1,[2])]) (solo:=[]) Tryz.func70 rfl hn h
def iL:RC:=
 (.seq (rR [0] [oQ 2 (.mov (.c (.sl .full []))),oQ 3 (.mov (.c (.int .i64 0)))]) (.seq (rR [0,4] [oQ 4 (.mov (.c (.sl .full [])))]) (.seq (.seq (rR [0,4,5] [oQ 5 (.mov (.c (.int .i64 0)))]) (.block 0 (.loop (.seq (.seq (rR [0,4,5,10] [qM 7 5,qM 8 0,oQ 9 (.len false 8),oQ 10 (.bin .lss 7 9)]) (.cond 10 .skip (.exit 0))) (.seq (.block 1 (.seq (rR [0,4,5,6] [qM 13 0,qM 14 5,qI 15 3 13 14,qA 16 3 15,oQ 17 (cF 33 [16]),qM 6 17]) (.seq (.seq (rR [0,4,5,6,19] [qM 18 6,oQ 19 (.bin .eql 18 (.c (.int .i64 2)))]) (.cond 19 (.seq (rR [2,3] [oQ 2 (.mov (.c (.sl .full []))),oQ 3 (.mov (.c (.int .i64 2)))]) .ret) .skip)) (.seq (rR [0,4,5,30] [qM 20 6,oQ 21 (.bin .eql 20 (.c (.int .i64 0))),qM 22 21,oG 23 22 true (.more .see [4]),oG 24 22 true (.mov 0),oG 25 22 true (.mov 5),oG 26 22 true (.idx 3 24 25),oG 27 22 true (.load true 3 26),oG 28 22 true (cF 34 [23,27]),oG 29 22 true (.un .not 28),oQ 30 (.pick 22 29 (.c (.bool false)))])
 (.cond 30 (rR [0,4,5] [qM 31 4,qM 32 0,qM 33 5,qI 34 3 32 33,qA 35 3 34,oQ 36 (.aM 3 [35]),oQ 37 (.append 3 31 36),qM 4 37]) .skip))))) (rR [0,4,5] [qM 11 5,oQ 12 (.bin .add 11 (.c (.int .i64 1))),qM 5 12])))))) (.seq (.seq (rR [4,40] [oQ 38 (.more .see [4]),oQ 39 (.len false 38),oQ 40 (.bin .eql 39 (.c (.int .i64 0)))]) (.cond 40 (.seq (rR [2,3] [oQ 2 (.mov (.c (.sl .full []))),oQ 3 (.mov (.c (.int .i64 1)))]) .ret) .skip)) (.seq (rR [2,3] [qM 41 4,qM 2 41,oQ 3 (.mov (.c (.int .i64 0)))]) .ret)))))
theorem iV(hn:vals.length<=42)(h:SP Tryz.prog true vals bs iL [.slot 2,.slot 3] Q):AM.Sem Tryz.prog 11 vals bs Q:=
 oZ (keeps:=[(0,[0]),(1,[0,4]),(2,[0,4,5]),(3,[0,4,5,10]),(5,[0,4,5,6]),(6,[0,4,5,6,19]),(7,[2,3]),(8,[0,4,5,30]),(9,[0,4,5]),(4,[0,4,5]),(10,[4,40]),(11,[2,3]),(12,[2,3]),(1000000,[23,38])]) (solo:=[]) Tryz.func11 rfl hn h
def iK:RC:=
 (.seq (rR [0,3] [oQ 3 (.box 1),oQ 4 (.mov (.c (.bool false)))]) (.seq (.seq (rR [0,3,5] [oQ 5 (.mov (.c (.int .i64 0)))]) (.block 0 (.loop (.seq (.seq (rR [0,3,5,9] [qM 6 5,qM 7 0,oQ 8 (.len false 7),oQ 9 (.bin .lss 6 8)]) (.cond 9 .skip (.exit 0))) (.seq (.block 1 (.seq (.reg true [0,3,5,17] [oQ 12 (.take 0),oQ 13 (.take 5),qI 14 3 12 13,qA 15 3 14,qA 16 3 3,oQ 17 (cF 35 [15,16])]) (.cond 17 (.seq (rR [4] [oQ 4 (.mov (.c (.bool true)))]) .ret) .skip))) (rR [0,3,5] [qM 10 5,oQ 11 (.bin .add 10 (.c (.int .i64 1))),qM 5 11])))))) (.seq (rR [4] [oQ 4 (.mov (.c (.bool false)))]) .ret)))
theorem iU(hn:vals.length<=18)(h:SP Tryz.prog true vals bs iK [.slot 4] Q):AM.Sem Tryz.prog 34 vals bs Q:=
 oZ (keeps:=[(0,[0,3]),(1,[0,3,5]),(2,[0,3,5,9]),(4,[0,3,5,17]),(5,[4]),(3,[0,3,5]),(6,[4])]) (solo:=[]) Tryz.func34 rfl hn h
def hP:RC:=
 (.seq (rR [0,1] [oQ 4 (.mov (.c (.bool false)))]) (.seq (.seq (rR [0,1,10] [qM 6 0,oQ 7 (.len false 6),qM 8 1,oQ 9 (.len false 8),oQ 10 (.bin .neq 7 9)]) (.cond 10 (.seq (rR [4] [oQ 4 (.mov (.c (.bool false)))]) .ret) .skip)) (.seq (.seq (rR [0,1,5] [oQ 5 (.mov (.c (.int .i64 0)))]) (.block 0 (.loop (.seq (.seq (rR [0,1,5,20] [qM 11 5,qM 12 0,oQ 13 (.len false 12),oQ 14 (.bin .lss 11 13),qM 15 14,oG 16 15 true (.mov 5),oG 17 15 true (.mov 1),oG 18 15 true (.len false 17),oG 19 15 true (.bin .lss 16 18),oQ 20 (.pick 15 19 (.c (.bool false)))]) (.cond 20 .skip (.exit 0))) (.seq (.block 1 (.seq (.reg true [0,1,5,32] [qM 23 0,qM 24 5,qI 25 3 23 24,qA 26 3 25,qM 27 1,qM 28 5,qI 29 3 27 28,qA 30 3 29,oQ 31 (cF 35 [26,30]),oQ 32 (.un .not 31)]) (.cond 32 (.seq (rR [4] [oQ 4 (.mov (.c (.bool false)))]) .ret) .skip))) (rR [0,1,5] [qM 21 5,oQ 22 (.bin .add 21 (.c (.int .i64 1))),qM 5 22]))))))
 (.seq (rR [4] [oQ 4 (.mov (.c (.bool true)))]) .ret))))
theorem il(hn:vals.length<=33)(h:SP Tryz.prog true vals bs hP [.slot 4] Q):AM.Sem Tryz.prog 12 vals bs Q:=
 oZ (keeps:=[(0,[0,1]),(1,[0,1,10]),(2,[4]),(3,[0,1,5]),(4,[0,1,5,20]),(6,[0,1,5,32]),(7,[4]),(5,[0,1,5]),(8,[4])]) (solo:=[]) Tryz.func12 rfl hn h
def s8:RC:=
 (.seq (rR [1] [oQ 1 (.box 0),oQ 2 (.mov (.c (.sl .full [])))]) (.seq (rR [2] [qF 3 2 1,qL 4 3,oQ 5 (cF 88 [4]),oQ 6 (cF 97 [5]),qM 2 6]) .ret))
theorem tn(hn:vals.length<=7)(h:SP Tryz.prog true vals bs s8 [.slot 2] Q):AM.Sem Tryz.prog 72 vals bs Q:=
 oZ (keeps:=[(0,[1]),(1,[2])]) (solo:=[]) Tryz.func72 rfl hn h
def lO:RC:=
 (.seq (rR [0,4,5,6] [oQ 4 (.box 1),oQ 5 (.box 2),oQ 6 (.box (.c (.agg [(.int .i64 0),(.str ⟨⟨[]⟩⟩),(.sl .full [])])))]) (.seq (rR [6] [qM 7 0,qA 8 4 4,qA 9 4 5,oQ 10 (.aM 4 [8,9]),oQ 11 (.build [(.int .i64 0),(.str ⟨⟨[]⟩⟩),(.sl .full [])] [(0,1,7),(2,1,10)]),oN (.store 3 6 11)]) .ret))
theorem lY(hn:vals.length<=12)(h:SP Tryz.prog true vals bs lO [.cell 6 true 3] Q):AM.Sem Tryz.prog 36 vals bs Q:=
 oZ (keeps:=[(0,[0,4,5,6]),(1,[6])]) (solo:=[]) Tryz.func36 rfl hn h
def lN:RC:=
 (.seq (rR [] [oQ 0 (.mov (.c (.bool false)))]) (.seq (rR [1] [oQ 5 (cF 37 [(.c (.int .i64 0))]),oQ 6 (cF 37 [(.c (.int .i64 1))]),oQ 7 (cF 36 [(.c (.int .i64 7)),5,6]),oQ 1 (.box (.c (.agg [(.int .i64 0),(.str ⟨⟨[]⟩⟩),(.sl .full [])]))),oN (.store 3 1 7)]) (.seq (.reg true [1,2,3] [oQ 9 (.build [(.int .i64 0),(.str ⟨⟨[]⟩⟩),(.sl .full [])] [(0,1,(.c (.int .i64 1)))]),oQ 10 (cF 38 [(.c (.int .i64 1))]),oQ 11 (cF 38 [(.c (.int .i64 2))]),oQ 12 (cF 36 [(.c (.int .i64 7)),10,11]),qA 13 3 1,qA 14 3 1,oQ 15 (.aM 3 [9,12,13,14]),oQ 16 (cF 10 [15]),oQ 8 (.take 16),oQ 17 (.ext 0 8),oQ 18 (.ext 1 8),oQ 2 (.take 17),oQ 3 (.take 18)]) (.seq (.reg true [1,2,3,4] [oQ 19 (cF 37 [(.c (.int .i64 0))]),oQ 20 (.aM 4 [19]),oQ 21 (.build [(.str ⟨⟨[]⟩⟩),(.sl .full [])] [(0,1,(.c (.str ⟨⟨[112]⟩⟩))),(1,1,20)]),oQ 22 (cF 37 [(.c (.int .i64 1))]),oQ 23 (.aM 4 [22]),oQ 24 (.build [(.str ⟨⟨[]⟩⟩),(.sl .full [])] [(0,1,(.c (.str ⟨⟨[113]⟩⟩))),(1,1,23)]),oQ 25 (.aM 2 [21,24]),oQ 26 (cF 37 [(.c (.int .i64 0))]),oQ 27 (cF 38 [(.c (.int .i64 3))]),oQ 28 (cF 36 [(.c (.int .i64 7)),26,27]),qA 29 3 1,oQ 30 (.aM 3 [28,29]),oQ 31 (.build [(.str ⟨⟨[]⟩⟩),(.sl .full []),(.sl .full []),(.sl .full []),(.sl .full []),(.int .i64 0)] [(1,1,25),(3,1,30),(5,1,(.c (.int .i64 2)))]),oQ 4 (.box (.c (.agg [(.str ⟨⟨[]⟩⟩),(.sl .full []),(.sl .full []),(.sl .full []),(.sl .full []),(.int .i64 0)]))),oN (.store 6 4 31)])
 (.seq (.reg true [0] [oQ 32 (.take 2),qA 33 3 1,oQ 34 (.aM 3 [33]),oQ 35 (cF 12 [32,34]),oQ 36 (.take 35),oG 37 36 true (.take 3),oG 38 36 true (.bin .eql 37 (.c (.int .i64 0))),oQ 39 (.pick 36 38 (.c (.bool false))),oQ 40 (.take 39),oG 41 40 true (.load true 6 4),oG 42 40 true (.aM 1 [(.c (.int .i64 0))]),oG 43 40 true (cF 16 [41,42]),oG 44 40 true (.aM 1 [(.c (.int .i64 0))]),oG 45 40 true (cF 15 [43,44]),oQ 46 (.pick 40 45 (.c (.bool false))),oQ 47 (.take 46),oG 48 47 true (.load true 6 4),oG 49 47 true (.aM 1 [(.c (.int .i64 1)),(.c (.int .i64 0))]),oG 50 47 true (cF 19 [48,49]),oG 51 47 true (.len false 50),oG 52 47 true (.bin .eql 51 (.c (.int .i64 3))),oQ 53 (.pick 47 52 (.c (.bool false))),oQ 54 (.take 53),oG 55 54 true (.load true 3 1),oG 56 54 true (cF 37 [(.c (.int .i64 0))]),oG 57 54 true (cF 37 [(.c (.int .i64 1))]),oG 58 54 true (cF 36 [(.c (.int .i64 8)),56,57]),oG 59 54 true (.aM 3 [55,58]),oG 60 54 true (cF 21 [59,(.c (.int .i64 1))]),oG 61 54 true (.un .not 60),oQ 62 (.pick 54 61 (.c (.bool false))),oQ 0 (.take 62)])
 .ret)))))
theorem lX(hn:vals.length<=63)(h:SP Tryz.prog true vals bs lN [.slot 0] Q):AM.Sem Tryz.prog 13 vals bs Q:=
 oZ (keeps:=[(0,[]),(1,[1]),(2,[1,2,3]),(3,[1,2,3,4]),(4,[0])]) (solo:=[]) Tryz.func13 rfl hn h
def eC:RC:=
 (.seq (rR [0] [oQ 2 (.mov (.c (.bool false)))]) (.seq (.seq (rR [0,8] [qM 7 0,oQ 8 (cF 9 [7,(.c (.int .i64 300))])]) (.cond 8 (.seq (rR [2] [oQ 2 (.mov (.c (.bool true)))]) .ret) .skip)) (.seq (rR [0,3,4] [qM 10 0,oQ 11 (cF 10 [10]),qM 9 11,oQ 12 (.ext 0 9),oQ 13 (.ext 1 9),qM 3 12,qM 4 13]) (.seq (rR [3,4,5,6] [qM 15 0,oQ 16 (cF 11 [15]),qM 14 16,oQ 17 (.ext 0 14),oQ 18 (.ext 1 14),qM 5 17,qM 6 18]) (.seq (rR [2] [qM 19 3,qM 20 5,oQ 21 (cF 12 [19,20]),qM 22 21,oG 23 22 true (.mov 4),oG 24 22 true (.mov 6),oG 25 22 true (.bin .eql 23 24),oQ 26 (.pick 22 25 (.c (.bool false))),qM 27 26,oG 28 27 true (cF 13 []),oQ 29 (.pick 27 28 (.c (.bool false))),qM 2 29]) .ret)))))
theorem bZ(hn:vals.length<=30)(h:SP Tryz.prog true vals bs eC [.slot 2] Q):AM.Sem Tryz.prog 3 vals bs Q:=
 oZ (keeps:=[(0,[0]),(1,[0,8]),(2,[2]),(3,[0,3,4]),(4,[3,4,5,6]),(5,[2])]) (solo:=[]) Tryz.func3 rfl hn h
theorem ov(hn:vals.length<=7)(h:SP Tryz.prog false vals bs pN [.slot 3] Q):AM.Sem Tryz.prog 31 vals bs Q:=
 oZ (keeps:=[(0,[1,2]),(1,[3])]) (solo:=[]) Tryz.func31 rfl hn h
theorem cX(hn:vals.length<=9)(h:SP Tryz.prog false vals bs dj [.slot 4] Q):AM.Sem Tryz.prog 30 vals bs Q:=
 oZ (keeps:=[(0,[0,1]),(1,[4])]) (solo:=[]) Tryz.func30 rfl hn h
theorem dx(hn:vals.length<=19)(h:SP Tryz.prog false vals bs dI [.slot 4] Q):AM.Sem Tryz.prog 61 vals bs Q:=
 oZ (keeps:=[(0,[0,1]),(1,[0,1,7,8]),(2,[0,1,7,8,9]),(3,[0,1,5,7,8]),(4,[0,1,5,7,8,16]),(5,[4]),(6,[0,1,7,8]),(7,[4])]) (solo:=[]) Tryz.func61 rfl hn h
theorem mU(hn:vals.length<=19)(h:SP Tryz.prog false vals bs nL [.slot 4] Q):AM.Sem Tryz.prog 42 vals bs Q:=
 oZ (keeps:=[(0,[0,3]),(1,[0,8,9,10]),(2,[0,8,9,10,11]),(3,[0,6,8,9,10]),(4,[0,8,9,10,17]),(5,[4]),(6,[0,8,9,10]),(7,[4])]) (solo:=[]) Tryz.func42 rfl hn h
theorem nT(hn:vals.length<=29)(h:SP Tryz.prog false vals bs oi [] Q):AM.Sem Tryz.prog 41 vals bs Q:=
 oZ (keeps:=[(0,[0,1,2,15]),(1,[0,20,21,22]),(2,[0,20,21,22,23]),(3,[0,7,20,21,22]),(4,[0,20,21,22]),(5,[0,20,21,22])]) (solo:=[]) Tryz.func41 rfl hn h
end Go.CK
set_option maxRecDepth 100000
namespace Go.CK
open Go.AM Go.Proofs
def eQ:List Gl->List Gl->Option (List Gl)
 |out,[]=>some out
 |out,g::r=>if jr g=2 then none else if jr g=0/\(out.any λx=>x.same g)=false then eQ (out++[g]) r else eQ out r
def lz(l:List Gl):List Gl×Int:=match eQ [] l with
 |none=>([],2)
 |some []=>([],1)
 |some (x::r)=>(x::r,0)
end Go.CK
set_option maxRecDepth 100000
namespace Go.CK
open Go.AM Go.Proofs
end Go.CK
set_option maxRecDepth 100000
namespace Go.CK
open Go.AM Go.Proofs
def Eg(l:List Gl)(j k:Nat):Bool:=match l[j]?,l[k]? with
 |some x,some y=>decide (j≠k)&&(CQ x y&&(decide (j<k)||!CQ y x))
 |_,_=>false
def AS(l:List Gl)(k:Nat):Bool:=!(List.range l.length).any λj=>Eg l j k
end Go.CK
namespace Go.CK
end Go.CK
set_option maxRecDepth 100000
namespace Go.CK
open Go.AM Go.Proofs
open Go.AM Go.Proofs
def Rl.bV(x:Rl):List At:=x.keep++x.remove
theorem LH{x:Rl}(h:x.keep.length+x.remove.length<=100000):Fun Tryz.prog 70 [x.av] (.int .i64 (x.keep.length+x.remove.length)):=by
 refine Fun.of (wj (by simp) ?_) rfl rfl
 conv=>whnf
 repeat' (first|refine gW (wI ?_)|refine gL (.map ?_)|refine ae.nrm ?_)<;>conv=>whnf
theorem EK{x:Rl}(h:x.keep.length+x.remove.length<=100000):Fun Tryz.prog 40 [x.av] (slA At.av x.bV):=by
 refine Fun.of (wm (by simp) ?_) rfl rfl
 conv=>whnf
 repeat' (first|refine gF (aa.fn (LH h) ?_)|refine gN (nS ?_)|refine ae.nrm ?_)<;>conv=>whnf
 simp[Rl.bV]
def kvs(hs:List At):List Int->List Int
 |[]=>[]
 |k::r=>(if 0<=k then match hs[k.toNat]? with
  |some h=>bR (Tm.vss h.args)
  |none=>[]
  else [])++kvs hs r
theorem px(hs:List At):∀l m,kvs hs (l++m)=kvs hs l++kvs hs m
 |[],m=>rfl
 |k::l,m=>by rw[ze,kvs,kvs,px hs l m,zg]
theorem MV{hs:List At}{l:List Int}{j:Nat}{k:Int}{h:At}(hk:l[j]? =some k)(h0:0<=k)(hh:hs[k.toNat]? =some h):kvs hs (l.take (j+1))=kvs hs (l.take j)++bR (Tm.vss h.args):=by
 obtain⟨hj,rfl⟩:=zB.1 hk;rw[List.take_succ_eq_append_getElem hj,px];simp[kvs,h0,hh]
theorem OA{hs:List At}{l:List Int}{j:Nat}{k:Int}(hk:l[j]? =some k)(h0:k<0\/(hs.length:Int)<=k):kvs hs (l.take (j+1))=kvs hs (l.take j):=by
 obtain⟨hj,rfl⟩:=zB.1 hk;rw[List.take_succ_eq_append_getElem hj,px];rcases h0 with h0|h0
 .simp [kvs,Int.not_le.2 h0]
 .have:hs[(l[j]).toNat]? =none:=zR (by omega)
  simp[kvs,this]
open Go.AM Go.Proofs
open Go.AM Go.Proofs
end Go.CK
namespace Go.CK
open Go.AM Go.Proofs
theorem EP{x:Gl}(hl:(Tm.vss x.args).length<=100000):Fun Tryz.prog 72 [x.av] (slA c6 (bR (Tm.vss x.args))):=by
 refine Fun.of (tn (by simp) ?_) rfl rfl
 conv=>whnf
 repeat' (first|(refine gF ?_;first|refine aa.fn (CV) ?_|refine aa.fn (HW hl) ?_)|refine ae.nrm ?_)<;>conv=>whnf
def bS(xs:List Int)(g:Gl):Bool:=(bR (Tm.vss g.args)).all λv=>decide (v∈xs)
theorem Bw{bs:List Box}{b:Nat}{xs:List Int}{g:Gl}(hl:(Tm.vss g.args).length<=100000)(hbb:ai bs.length bs=true)(hb:bs[b]? =some (.mp (i7 (.bool true) xs))):AM.Sem Tryz.prog 42 [.mpt b,g.av] bs λr bs'=>r=.bool (bS xs g)/\bs'=bs:=by
 have hblt:b<bs.length:=(zB.1 hb).1;refine mU (by simp) ?_
 conv=>whnf
 repeat' (first|(refine gF ?_;refine aa.fn (EP (x:=g) hl) ?_)|refine gL (.map ?_)|refine gB (.last ?_))<;>conv=>whnf
 unfold bS
 have hvl:(bR (Tm.vss g.args)).length<=100000:=by
  have:=jq (Tm.vss g.args) [];simp only[ZQ] at this;unfold bR;omega
 generalize bR (Tm.vss g.args)=vs at*;obtain⟨bg,hbg⟩:∃bg,bg=[AV.int .i64 g.op,.str g.name,.sl .no (g.args.map Tm.av)]:=⟨_,rfl⟩;have hb2:(bs++[Box.cells bg])[b]? =some (.mp (i7 (.bool true) xs)):=by rw[zK hblt];exact hb
 rw[<-hbg];refine aD.count (fb:=false) vs.length (λst_ j=>⟨[(0,.mpt b),(8,slA c6 vs),(9,.int .i64 vs.length),(10,.int .i64 j)],bs++[Box.cells bg],bs.length⟩) (λj=>∀i x,i<j->vs[i]? =some x->decide (x∈xs)=true) (λi x hi=>by omega) ?_ (λj hj hij=>?_) (λhij=>?_)
 .refine ah.atS ?_ rfl rfl
  conv=>whnf
  repeat' (first|(refine gV ?_;first|refine vE ?_|refine vI ?_)|exact True.intro)<;>conv=>whnf
 .obtain ⟨y,hy⟩:∃y,vs[j]? =some y:=⟨_,zA hj⟩
  conv=>whnf
  repeat' (first|(refine gC ?_;first|refine cY ?_|refine cN ?_|refine .not ?_|refine gD (cI ?_))|refine gW (wI ?_)|refine gI (gM (iE ?_))|refine gMp (mA ?_)|(refine gMs ?_;refine mS (λhc=>?_) (λhc=>?_)))<;>conv=>whnf
  .refine ⟨JZ hij hy (decide_eq_true (by assumption)),?_⟩
   refine ah.atS ?_ rfl rfl
   conv=>whnf
   repeat' (first|(refine gV ?_;first|refine vE ?_|refine vI ?_)|exact True.intro)<;>conv=>whnf
  .refine ae.uR rfl (zG _) rfl hbb ?_;refine ae.slot ⟨?_,rfl⟩;rw[OX hy (decide_eq_false (by assumption))];rfl
 .conv=>whnf
  repeat' refine gC (gD (cJ ?_))<;>conv=>whnf
  refine ae.uR rfl (zG _) rfl hbb ?_;refine ae.slot ⟨?_,rfl⟩;rw[Nk hij];rfl
theorem ae.nil{s:St}{Q:AV->List Box->Prop}(h:Q (.tup []) s.bs):ae s [] Q:=⟨s,aE.refl s,.inl h⟩
theorem vn{α:Type}{l:List α}{b:Nat}{x:α}(h:l[b]? =some x):l.set b x=l:=by
 obtain⟨hb,rfl⟩:=zB.1 h;exact List.set_getElem_self hb
theorem GK{hs:List At}{k:Int}(h:k<0\/(hs.length:Int)<=k):kvs hs [k]=[]:=by
 have:=OA (hs:=hs) (l:=[k]) (j:=0) (k:=k) rfl h;simpa[kvs] using this
theorem MW{hs:List At}{k:Int}{h:At}(h0:0<=k)(hh:hs[k.toNat]? =some h):kvs hs [k]=bR (Tm.vss h.args):=by
 have:=MV (hs:=hs) (l:=[k]) (j:=0) (k:=k) rfl h0 hh;simpa[kvs] using this
theorem E4{bs:List Box}{b:Nat}{xs:List Int}{hs:List At}{k:Int}(hl:∀h∈hs,(Tm.vss h.args).length<=100000)(hbb:ai bs.length bs=true)(hb:bs[b]? =some (.mp (i7 (.bool true) xs))):AM.Sem Tryz.prog 41 [.mpt b,slA At.av hs,.int .i64 k] bs λr bs'=>r=.tup []/\bs'=bs.set b (.mp (i7 (.bool true) (xs++kvs hs [k]))):=by
 have hblt:b<bs.length:=(zB.1 hb).1;refine nT (by simp) ?_
 by_cases hk:0<=k/\k<hs.length
 .obtain ⟨h,hh⟩:∃h,hs[k.toNat]? =some h:=⟨_,zA (by omega)⟩
  rw[MW hk.1 hh]
  conv=>whnf
  repeat' (first|(refine gF ?_;refine aa.fn (FA (x:=h) (hl h (zE hh))) ?_)|refine gC (gD (cJ ?_))|refine gL (.map ?_)|refine gI (gM (iF ?_)))<;>conv=>whnf
  have hvl:(bR (Tm.vss h.args)).length<=100000:=by
   have:=jq (Tm.vss h.args) [];simp only[ZQ] at this;have:=hl h (zE hh);unfold bR;omega
  generalize bR (Tm.vss h.args)=vs at*;refine aD.count (fb:=false) vs.length (λst_ j=>⟨[(0,.mpt b),(20,slA c6 vs),(21,.int .i64 vs.length),(22,.int .i64 j)],bs.set b (.mp (i7 (.bool true) (xs++vs.take j))),bs.length⟩) (λ_=>True) trivial ?_ (λj hj _=>?_) (λ_=>?_)
  .refine ah.atS ?_ (by rw[ZL,zy,vn hb]) rfl
   conv=>whnf
   repeat' (first|(refine gV ?_;first|refine vE ?_|refine vI ?_)|exact True.intro)<;>conv=>whnf
  .obtain ⟨y,hy⟩:∃y,vs[j]? =some y:=⟨_,zA hj⟩
   have hs:vs.take (j+1)=vs.take j++[y]:=by
    rw[List.take_succ_eq_append_getElem hj,(zB.1 hy).2]
   have hb3:(bs.set b (.mp (i7 (.bool true) (xs++vs.take j))))[b]? =some (.mp (i7 (.bool true) (xs++vs.take j))):=by rw[List.getElem?_set_self hblt]
   conv=>whnf
   repeat' (first|refine gC (gD (cI ?_))|refine gW (wI ?_)|refine gN (nS ?_)|refine gI (gM (iE ?_))|refine gMp (mA ?_))<;>conv=>whnf
   refine⟨trivial,?_⟩;refine ah.atS ?_ (by simp only[List.set_set,St.ev];rw[hs,<-zg,Ek]) rfl
   conv=>whnf
   repeat' (first|(refine gV ?_;first|refine vE ?_|refine vI ?_)|exact True.intro)<;>conv=>whnf
  .rw [zz]
   conv=>whnf
   repeat' refine gC (gD (cJ ?_))<;>conv=>whnf
   exact ae.nil ⟨rfl,rfl⟩
 .rw [GK (by omega),zy,vn hb]
  conv=>whnf
  repeat' (first|(refine gC ?_;first|refine cY ?_|(refine gD ?_;first|refine cI ?_|refine cJ ?_)|refine al.lt (λhc=>?_) (λhc=>?_))|refine gL (.map ?_))<;>conv=>whnf
  .exact ae.nil ⟨rfl,rfl⟩
  .exact ae.nil ⟨rfl,rfl⟩
end Go.CK
namespace Go.CK
open Go.AM Go.Proofs
def Rl.ok3(r:Rl):Prop:=r.keep.length+r.remove.length<=200/\∀h∈r.bV,h.args.length<=200/\(Tm.vss h.args).length<=200/\∀t∈h.args,t.vs.length<=200
end Go.CK
namespace Go.CK
open Go.AM Go.Proofs
def eD{α:Type}(p:α->Bool)(l:List α):Nat->List Int
 |0=>[]
 |j+1=>eD p l j++match l[j]? with
  |none=>[]
  |some x=>if p x then [(j:Int)] else []
theorem EJ{α:Type}{p:α->Bool}{l:List α}{j:Nat}{t:α}(h:l[j]? =some t)(hp:p t=true):eD p l (j+1)=eD p l j++[(j:Int)]:=by simp[eD,h,hp]
theorem CM{α:Type}{p:α->Bool}{l:List α}{j:Nat}{t:α}(h:l[j]? =some t)(hp:p t=false):eD p l (j+1)=eD p l j:=by simp[eD,h,hp]
theorem sC{α:Type}(p:α->Bool)(l:List α):∀j,(eD p l j).length<=j
 |0=>zG _
 |j+1=>by
  have:=sC p l j;simp only[eD,zC];split
  .simp;omega
  .split<;>simp<;>omega
def Gm(r:Rl)(done:List Int):List Int:=eD (bS (kvs r.bV done)) r.guard r.guard.length
def Rl.okG(r:Rl):Prop:=r.guard.length<=100000/\∀g∈r.guard,(Tm.vss g.args).length<=100000
def mW(r:Rl)(order:List Int):Nat->Gl->Bool
 |0=>bS (kvs r.bV [])
 |k+1=>λg=>bS (kvs r.bV (order.take (k+1))) g&&!bS (kvs r.bV (order.take k)) g
def newI(r:Rl)(order:List Int)(k:Nat):List Int:=eD (mW r order k) r.guard r.guard.length
def fH(r:Rl)(order:List Int):Nat->List (List Int)
 |0=>[]
 |k+1=>fH r order k++[newI r order k]
def Cn(r:Rl)(order:List Int):List (List Int):=fH r order (order.length+1)
theorem qq(r:Rl)(order:List Int):∀k,(fH r order k).length=k
 |0=>rfl
 |k+1=>by simp[fH,qq r order k]
def A9(l:List Int):AV:=slA c6 l
end Go.CK
