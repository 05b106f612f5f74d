/-
  Texts of this bj joined (wip/gen/bundle.py),those declarations only that are needed:RcLkp AmDf AmRn AmVx. By an AI agent.
-/
import Derived.Test.YtcjfkbdbcgmomaaGreatDoorBat
import Derived.RangeFuncLeaves
set_option linter.unusedSimpArgs false
set_option linter.unusedVariables false
namespace Go.CK
open Go.AM Go.Proofs
variable{ab:List AV}{bs:List Box}{Q:AV->List Box->Prop}
def qG:RC:=
 (.seq (rR [1,2,3] [oQ 3 (.box 0),oQ 6 (.mov (.c (.sl .full [])))]) (.seq (rR [1,2,7] [qA 16 6 3,oQ 17 (cF 70 [16]),qM 7 17]) (.seq (.seq (rR [1,2,7,25] [qM 18 2,oQ 19 (.bin .lss 18 (.c (.int .i64 0))),qM 20 19,oG 21 20 false (.mov 2),oG 22 20 false (.mov 7),oG 23 20 false (.len false 22),oG 24 20 false (.bin .geq 21 23),oQ 25 (.pick 20 (.c (.bool true)) 24)]) (.cond 25 (.seq (rR [6] [oQ 6 (.mov (.c (.sl .full [])))]) .ret) .skip)) (.seq (rR [1,2,7,8] [oQ 26 (.eff .mkM []),oQ 8 (.box (.c .nmp)),oN (.store 1 8 26)]) (.seq (.seq (rR [2,7,8,27,28,29] [qM 27 1,oQ 28 (.len false 27),oQ 29 (.mov (.c (.int .i64 0)))]) (.block 0 (.loop (.seq (rR [2,7,8,27,28,29,30] [oQ 30 (.bin .lss 29 28)]) (.seq (.cond 30 .skip (.exit 0)) (.seq (.block 1 (.seq (rR [2,7,8,10,27,28,29] [qI 31 1 27 29,qL 32 31,qM 10 32]) (.seq (rR [2,7,8,10,27,28,29,40] [qM 33 10,oQ 34 (.bin .geq 33 (.c (.int .i64 0))),qM 35 34,oG 36 35 true (.mov 10),oG 37 35 true (.mov 7),oG 38 35 true (.len false 37),oG 39 35 true (.bin .lss 36 38),oQ 40 (.pick 35 39 (.c (.bool false)))])
 (.cond 40 (.seq (rR [2,7,8,27,28,29,45,46,47] [qM 41 7,qM 42 10,qI 43 2 41 42,qA 44 2 43,oQ 45 (cF 71 [44]),oQ 46 (.len false 45),oQ 47 (.mov (.c (.int .i64 0)))]) (.block 2 (.loop (.seq (rR [2,7,8,27,28,29,45,46,47,48] [oQ 48 (.bin .lss 47 46)]) (.seq (.cond 48 .skip (.exit 2)) (.seq (.block 3 (.seq (rR [2,7,8,12,27,28,29,45,46,47] [qI 49 1 45 47,qL 50 49,qM 12 50]) (rR [2,7,8,27,28,29,45,46,47] [qL 51 8,qM 52 12,oN (.eff .xC [51,52,(.c (.bool true))])]))) (rR [2,7,8,27,28,29,45,46,47] [oQ 53 (.bin .add 47 (.c (.int .i64 1))),qM 47 53]))))))) .skip)))) (rR [2,7,8,27,28,29] [oQ 54 (.bin .add 29 (.c (.int .i64 1))),qM 29 54]))))))) (.seq (rR [2,7,8,13] [oQ 13 (.mov (.c (.sl .full [])))]) (.seq (.seq (rR [8,13,59,60,61] [qM 55 7,qM 56 2,qI 57 2 55 56,qF 58 1 57,qL 59 58,oQ 60 (.len false 59),oQ 61 (.mov (.c (.int .i64 0)))])
 (.block 4 (.loop (.seq (rR [8,13,59,60,61,62] [oQ 62 (.bin .lss 61 60)]) (.seq (.cond 62 .skip (.exit 4)) (.seq (.block 5 (.seq (rR [8,13,14,15,59,60,61] [qM 63 61,qI 64 4 59 61,qA 65 4 64,oQ 15 (.box (.c (.agg [(.int .i64 0),(.int .i64 0),(.str ⟨⟨[]⟩⟩),(.sl .full [])]))),qM 14 63,oN (.store 4 15 65)]) (.seq (rR [8,13,14,59,60,61,70] [qA 66 4 15,oQ 67 (cF 73 [66]),oQ 68 (.qR (.func 74) [] [8]),oQ 69 (cF 72 [67,68]),oQ 70 (.un .not 69)]) (.cond 70 (rR [8,13,59,60,61] [qM 71 13,qM 72 14,oQ 73 (.aQ 1 [72]),oQ 74 (.append 1 71 73),qM 13 74]) .skip)))) (rR [8,13,59,60,61] [oQ 75 (.bin .add 61 (.c (.int .i64 1))),qM 61 75]))))))) (.seq (rR [6] [qM 76 13,qM 6 76]) .ret))))))))
theorem qN(hn:ab.length<=77)(h:SP Tryz.prog true ab bs qG [.slot 6] Q):AM.Sem Tryz.prog 24 ab bs Q:=
 oZ (keeps:=[(0,[1,2,3]),(1,[1,2,7]),(2,[1,2,7,25]),(3,[6]),(4,[1,2,7,8]),(5,[2,7,8,27,28,29]),(6,[2,7,8,27,28,29,30]),(7,[2,7,8,10,27,28,29]),(8,[2,7,8,10,27,28,29,40]),(9,[2,7,8,27,28,29,45,46,47]),(10,[2,7,8,27,28,29,45,46,47,48]),(11,[2,7,8,12,27,28,29,45,46,47]),(12,[2,7,8,27,28,29,45,46,47]),(13,[2,7,8,27,28,29,45,46,47]),(14,[2,7,8,27,28,29]),(15,[2,7,8,13]),(16,[8,13,59,60,61]),(17,[8,13,59,60,61,62]),(18,[8,13,14,15,59,60,61]),(19,[8,13,14,59,60,61,70]),(20,[8,13,59,60,61]),(21,[8,13,59,60,61]),(22,[6])]) (solo:=[]) Tryz.func24 rfl hn h
def r7:RC:=
 (.seq (rR [2,3,4,6,7] [oQ 3 (.box 0),oQ 4 (.box 1),oQ 6 (.box (.c (.agg [(.str ⟨⟨[]⟩⟩),(.sl .full [])]))),oQ 7 (.mov (.c (.sl .full []))),oQ 8 (.mov (.c (.bool false)))]) (.seq (.seq (rR [2,3,4,6,7,34] [qM 11 2,oQ 12 (.bin .lss 11 (.c (.int .i64 0))),qM 13 12,oG 14 13 false (.mov 2),oG 15 13 false (.aZ 3 4),oG 16 13 false (.load false 1 15),oG 17 13 false (.len false 16),oG 18 13 false (.bin .geq 14 17),oQ 19 (.pick 13 (.c (.bool true)) 18),qM 20 19,oG 21 20 false (.aZ 0 4),oG 22 20 false (.aZ 0 21),oG 23 20 false (.load false 1 22),oG 24 20 false (.bin .lss 23 (.c (.int .i64 0))),oQ 25 (.pick 20 (.c (.bool true)) 24),qM 26 25,oG 27 26 false (.aZ 0 4),oG 28 26 false (.aZ 0 27),oG 29 26 false (.load false 1 28),oG 30 26 false (.aZ 1 3),oG 31 26 false (.load false 1 30),oG 32 26 false (.len false 31),oG 33 26 false (.bin .geq 29 32),oQ 34 (.pick 26 (.c (.bool true)) 33)])
 (.cond 34 (.seq (rR [6,7,8] [oQ 35 (.build [(.str ⟨⟨[]⟩⟩),(.sl .full [])] []),oN (.store 2 6 35),oQ 7 (.mov (.c (.sl .full []))),oQ 8 (.mov (.c (.bool false)))]) .ret) .skip)) (.seq (.reg true [2,4,6,7,9,10] [qF 36 1 3,qL 37 36,qF 38 0 4,qF 39 0 38,qL 40 39,qI 41 6 37 40,qA 42 6 41,oQ 43 (cF 70 [42]),qF 44 3 4,qL 45 44,oQ 46 (.take 2),qI 47 1 45 46,qL 48 47,oQ 9 (.take 43),oQ 10 (.take 48)]) (.seq (.seq (rR [2,4,6,7,9,10,56] [qM 49 10,oQ 50 (.bin .lss 49 (.c (.int .i64 0))),qM 51 50,oG 52 51 false (.mov 10),oG 53 51 false (.mov 9),oG 54 51 false (.len false 53),oG 55 51 false (.bin .geq 52 54),oQ 56 (.pick 51 (.c (.bool true)) 55)]) (.cond 56 (.seq (rR [6,7,8] [oQ 57 (.build [(.str ⟨⟨[]⟩⟩),(.sl .full [])] []),oN (.store 2 6 57),oQ 7 (.mov (.c (.sl .full []))),oQ 8 (.mov (.c (.bool false)))]) .ret) .skip)) (.seq (.seq (rR [2,4,6,7,9,10,62] [
 qM 58 2,qF 59 4 4,qL 60 59,oQ 61 (.len false 60),oQ 62 (.bin .lss 58 61)]) (.cond 62 (rR [6,7,9,10] [qF 63 4 4,qL 64 63,qM 65 2,qI 66 1 64 65,qL 67 66,qM 7 67]) .skip)) (.seq (rR [6,7,8] [qM 68 9,qM 69 10,qI 70 2 68 69,qA 71 2 70,qM 72 7,oN (.store 2 6 71),qM 7 72,oQ 8 (.mov (.c (.bool true)))]) .ret))))))
theorem dJ(hn:ab.length<=73)(h:SP Tryz.prog true ab bs r7 [.cell 6 true 2,.slot 7,.slot 8] Q):AM.Sem Tryz.prog 68 ab bs Q:=
 oZ (keeps:=[(0,[2,3,4,6,7]),(1,[2,3,4,6,7,34]),(2,[6,7,8]),(3,[2,4,6,7,9,10]),(4,[2,4,6,7,9,10,56]),(5,[6,7,8]),(6,[2,4,6,7,9,10,62]),(7,[6,7,9,10]),(8,[6,7,8])]) (solo:=[]) Tryz.func68 rfl hn h
def r9:RC:=
 (.seq (rR [1,3,4,6] [oQ 4 (.box 0),oQ 6 (.box 2),oQ 8 (.mov (.c (.int .i64 0)))]) (.seq (.seq (rR [1,9,10,11] [qA 13 2 4,qA 14 6 6,qM 15 3,oQ 16 (cF 68 [13,14,15]),qM 12 16,oQ 17 (.ext 0 12),oQ 18 (.ext 1 12),oQ 19 (.ext 2 12),oQ 9 (.box (.c (.agg [(.str ⟨⟨[]⟩⟩),(.sl .full [])]))),oN (.store 2 9 17),qM 10 18,qM 11 19]) (.seq (rR [1,9,10,20] [qM 20 11]) (.cond 20 (.seq (rR [8] [qM 21 1,qA 22 2 9,qM 23 10,oQ 24 (cF 69 [21,22,23]),qM 8 24]) .ret) .skip))) (.seq (rR [8] [oQ 8 (.mov (.c (.int .i64 (-1))))]) .ret)))
theorem l8(hn:ab.length<=25)(h:SP Tryz.prog true ab bs r9 [.slot 8] Q):AM.Sem Tryz.prog 23 ab bs Q:=
 oZ (keeps:=[(0,[1,3,4,6]),(1,[1,9,10,11]),(2,[1,9,10,20]),(3,[8]),(4,[8])]) (solo:=[]) Tryz.func23 rfl hn h
def uf:RC:=
 (.seq (rR [2,3,4] [oQ 3 (.box 0),oQ 4 (.box 1),oQ 6 (.mov (.c (.sl .full [])))]) (.seq (rR [7,8] [qA 14 2 3,qA 15 6 4,qM 16 2,oQ 17 (cF 68 [14,15,16]),qM 13 17,oQ 18 (.ext 0 13),oQ 19 (.ext 1 13),oQ 20 (.ext 2 13),oQ 7 (.box (.c (.agg [(.str ⟨⟨[]⟩⟩),(.sl .full [])]))),oN (.store 2 7 18),qM 8 19,qM 9 20]) (.seq (rR [7,8,10] [oQ 10 (.mov (.c (.sl .full [])))]) (.seq (.seq (rR [7,10,21,22,23] [qM 21 8,oQ 22 (.len false 21),oQ 23 (.mov (.c (.int .i64 0)))]) (.block 0 (.loop (.seq (rR [7,10,21,22,23,24] [oQ 24 (.bin .lss 23 22)]) (.seq (.cond 24 .skip (.exit 0)) (.seq (.block 1 (.seq (rR [7,10,12,21,22,23] [qI 25 1 21 23,qL 26 25,qM 12 26]) (.seq (rR [7,10,12,21,22,23,35] [qM 27 12,oQ 28 (.bin .geq 27 (.c (.int .i64 0))),qM 29 28,oG 30 29 true (.mov 12),oG 31 29 true (.aZ 1 7),oG 32 29 true (.load false 1 31),oG 33 29 true (.len false 32),oG 34 29 true (.bin .lss 30 33),oQ 35 (.pick 29 34 (.c (.bool false)))])
 (.cond 35 (rR [7,10,21,22,23] [qM 36 10,qF 37 1 7,qL 38 37,qM 39 12,qI 40 4 38 39,qA 41 4 40,oQ 42 (.aQ 4 [41]),oQ 43 (.append 4 36 42),qM 10 43]) .skip)))) (rR [7,10,21,22,23] [oQ 44 (.bin .add 23 (.c (.int .i64 1))),qM 23 44]))))))) (.seq (rR [6] [qM 45 10,qM 6 45]) .ret)))))
theorem nk(hn:ab.length<=46)(h:SP Tryz.prog true ab bs uf [.slot 6] Q):AM.Sem Tryz.prog 25 ab bs Q:=
 oZ (keeps:=[(0,[2,3,4]),(1,[7,8]),(2,[7,8,10]),(3,[7,10,21,22,23]),(4,[7,10,21,22,23,24]),(5,[7,10,12,21,22,23]),(6,[7,10,12,21,22,23,35]),(7,[7,10,21,22,23]),(8,[7,10,21,22,23]),(9,[6])]) (solo:=[]) Tryz.func25 rfl hn h
def r8:RC:=
 (.seq (rR [0,4,5] [oQ 4 (.box 1),oQ 5 (.box 2),oQ 6 (.mov (.c (.int .i64 0)))]) (.seq (rR [6] [qM 7 0,oQ 8 (.qR (.func 130) [] [4,5]),oQ 9 (cF 94 [7,8]),qM 6 9]) .ret))
theorem ss(hn:ab.length<=10)(h:SP Tryz.prog true ab bs r8 [.slot 6] Q):AM.Sem Tryz.prog 69 ab bs Q:=
 oZ (keeps:=[(0,[0,4,5]),(1,[6])]) (solo:=[]) Tryz.func69 rfl hn h
def oo:RC:=
 (.seq (rR [0,1] [oQ 3 (.mov (.c (.bool false)))]) (.seq (rR [3] [qL 4 1,qM 5 0,oQ 6 (.eff (.getM false (.bool false)) [4,5]),oQ 7 (.un .not 6),qM 3 7]) .ret))
def pf:RC:=
 (.seq (rR [1,2,3] [oQ 3 (.box 0),oQ 4 (.mov (.c (.bool false)))]) (.seq (rR [4] [qF 5 0 3,qL 6 5,qF 7 0 1,qL 8 7,oQ 9 (.bin .eql 6 8),qM 10 9,oG 11 10 true (.aZ 1 3),oG 12 10 true (.load false 1 11),oG 13 10 true (.aZ 1 1),oG 14 10 true (.load false 1 13),oG 15 10 true (.len false 14),oG 16 10 true (.bin .eql 12 15),oQ 17 (.pick 10 16 (.c (.bool false))),qM 18 17,oG 19 18 true (.aZ 2 3),oG 20 18 true (.load false 1 19),oG 21 18 true (.load false 1 2),oG 22 18 true (cF 131 [20,21]),oQ 23 (.pick 18 22 (.c (.bool false))),qM 4 23]) .ret))
theorem pr(hn:ab.length<=24)(h:SP Tryz.prog true ab bs pf [.slot 4] Q):AM.Sem Tryz.prog 130 ab bs Q:=
 oZ (keeps:=[(0,[1,2,3]),(1,[4])]) (solo:=[]) Tryz.func130 rfl hn h
def cy:RC:=
 (.seq (rR [0,1] [oQ 4 (.mov (.c (.int .i64 0)))]) (.seq (.seq (rR [0,1,7,8] [qM 6 0,oQ 7 (.len false 6),oQ 8 (.mov (.c (.int .i64 0)))]) (.block 0 (.loop (.seq (rR [0,1,7,8,9] [oQ 9 (.bin .lss 8 7)]) (.seq (.cond 9 .skip (.exit 0)) (.seq (.block 1 (.seq (rR [0,1,5,7,8] [qM 10 8,qM 5 10]) (.seq (rR [0,1,5,7,8,16] [qM 11 1,qM 12 0,qM 13 5,qI 14 3 12 13,qA 15 3 14,oQ 16 (.dX 11 [15])]) (.cond 16 (.seq (rR [4] [qM 17 5,qM 4 17]) .ret) .skip)))) (rR [0,1,7,8] [oQ 18 (.bin .add 8 (.c (.int .i64 1))),qM 8 18]))))))) (.seq (rR [4] [oQ 4 (.mov (.c (.int .i64 (-1))))]) .ret)))
theorem bB(hn:ab.length<=19)(h:SP Tryz.prog true ab bs cy [.slot 4] Q):AM.Sem Tryz.prog 94 ab bs Q:=
 oZ (keeps:=[(0,[0,1]),(1,[0,1,7,8]),(2,[0,1,7,8,9]),(3,[0,1,5,7,8]),(4,[0,1,5,7,8,16]),(5,[4]),(6,[0,1,7,8]),(7,[4])]) (solo:=[]) Tryz.func94 rfl hn h
def ug:RC:=
 (.seq (rR [1,2] [oQ 2 (.box 0),oQ 4 (.mov (.c (.sl .full [])))]) (.seq (rR [1,2,5] [oQ 5 (.mov (.c (.sl .full [])))]) (.seq (.seq (rR [2,5,12,13,14] [qM 12 1,oQ 13 (.len false 12),oQ 14 (.mov (.c (.int .i64 0)))]) (.block 0 (.loop (.seq (rR [2,5,12,13,14,15] [oQ 15 (.bin .lss 14 13)]) (.seq (.cond 15 .skip (.exit 0)) (.seq (.block 1 (.seq (rR [2,5,7,12,13,14] [qI 16 6 12 14,qA 17 6 16,oQ 7 (.box (.c (.agg [(.int .i64 0),(.int .i64 0),(.bool false),(.sl .full []),(.sl .full []),(.sl .full [])]))),oN (.store 6 7 17)]) (.seq (rR [2,5,7,12,13,14,20,21] [qF 18 3 7,qL 19 18,oQ 20 (.len false 19),oQ 21 (.mov (.c (.int .i64 0)))]) (.block 2 (.loop (.seq (rR [2,5,7,12,13,14,20,21,22] [oQ 22 (.bin .lss 21 20)]) (.seq (.cond 22 .skip (.exit 2)) (.seq (.block 3 (.seq (rR [2,5,7,8,12,13,14,20,21] [qM 23 21,qM 8 23]) (.seq (rR [2,5,7,9,10,11,12,13,14,20,21] [
 qA 25 2 2,qA 26 6 7,qM 27 8,oQ 28 (cF 68 [25,26,27]),qM 24 28,oQ 29 (.ext 0 24),oQ 30 (.ext 1 24),oQ 31 (.ext 2 24),oQ 9 (.box (.c (.agg [(.str ⟨⟨[]⟩⟩),(.sl .full [])]))),oN (.store 2 9 29),qM 10 30,qM 11 31]) (.seq (rR [2,5,7,9,10,12,13,14,20,21,39] [qM 32 11,qM 33 32,oG 34 33 true (.more .see [5]),oG 35 33 true (.load true 2 9),oG 36 33 true (.mov 10),oG 37 33 true (cF 69 [34,35,36]),oG 38 33 true (.bin .lss 37 (.c (.int .i64 0))),oQ 39 (.pick 33 38 (.c (.bool false)))]) (.cond 39 (rR [2,5,7,12,13,14,20,21] [qM 40 5,qF 41 0 9,qL 42 41,qF 43 1 9,qL 44 43,oQ 45 (.len false 44),qM 46 10,oQ 47 (.build [(.str ⟨⟨[]⟩⟩),(.int .i64 0),(.sl .full [])] [(0,1,42),(1,1,45),(2,1,46)]),oQ 48 (.aQ 3 [47]),oQ 49 (.append 3 40 48),qM 5 49]) .skip))))) (rR [2,5,7,12,13,14,20,21] [oQ 50 (.bin .add 21 (.c (.int .i64 1))),qM 21 50])))))))))
 (rR [2,5,12,13,14] [oQ 51 (.bin .add 14 (.c (.int .i64 1))),qM 14 51]))))))) (.seq (rR [4] [qM 52 5,qM 4 52]) .ret))))
theorem um(hn:ab.length<=53)(h:SP Tryz.prog true ab bs ug [.slot 4] Q):AM.Sem Tryz.prog 22 ab bs Q:=
 oZ (keeps:=[(0,[1,2]),(1,[1,2,5]),(2,[2,5,12,13,14]),(3,[2,5,12,13,14,15]),(4,[2,5,7,12,13,14]),(5,[2,5,7,12,13,14,20,21]),(6,[2,5,7,12,13,14,20,21,22]),(7,[2,5,7,8,12,13,14,20,21]),(8,[2,5,7,9,10,11,12,13,14,20,21]),(9,[2,5,7,9,10,12,13,14,20,21,39]),(10,[2,5,7,12,13,14,20,21]),(11,[2,5,7,12,13,14,20,21]),(12,[2,5,12,13,14]),(13,[4]),(1000000,[34])]) (solo:=[]) Tryz.func22 rfl hn h
def je:RC:=
 (.seq (rR [1,2] [oQ 2 (.box 0),oQ 4 (.mov (.c (.bool false)))]) (.seq (.seq (rR [1,2,15] [qF 6 0 2,qL 7 6,oQ 8 (.len false 7),oQ 9 (.bin .gtr 8 (.c (.int .i64 60))),qM 10 9,oG 11 10 false (.aZ 1 2),oG 12 10 false (.load false 1 11),oG 13 10 false (.len false 12),oG 14 10 false (.bin .gtr 13 (.c (.int .i64 60))),oQ 15 (.pick 10 (.c (.bool true)) 14)]) (.cond 15 (.seq (rR [4] [oQ 4 (.mov (.c (.bool true)))]) .ret) .skip)) (.seq (.seq (rR [1,2,5] [oQ 5 (.mov (.c (.int .i64 0)))]) (.block 0 (.loop (.seq (.seq (rR [1,2,5,20] [qM 16 5,qF 17 0 2,qL 18 17,oQ 19 (.len false 18),oQ 20 (.bin .lss 16 19)]) (.cond 20 .skip (.exit 0))) (.seq (.block 1 (.seq (rR [1,2,5,30] [qF 23 0 2,qL 24 23,qM 25 5,qI 26 2 24 25,qF 27 0 26,qL 28 27,oQ 29 (.len true 28),oQ 30 (.bin .gtr 29 (.c (.int .i64 200)))]) (.cond 30 (.seq (rR [4] [oQ 4 (.mov (.c (.bool true)))]) .ret) .skip)))
 (rR [1,2,5] [qM 21 5,oQ 22 (.bin .add 21 (.c (.int .i64 1))),qM 5 22])))))) (.seq (rR [4] [qF 31 1 2,qL 32 31,qM 33 1,oQ 34 (cF 119 [32,33]),qM 4 34]) .ret))))
theorem jx(hn:ab.length<=35)(h:SP Tryz.prog true ab bs je [.slot 4] Q):AM.Sem Tryz.prog 64 ab bs Q:=
 oZ (keeps:=[(0,[1,2]),(1,[1,2,15]),(2,[4]),(3,[1,2,5]),(4,[1,2,5,20]),(6,[1,2,5,30]),(7,[4]),(5,[1,2,5]),(8,[4])]) (solo:=[]) Tryz.func64 rfl hn h
def js:RC:=
 (.seq (rR [1,2] [oQ 2 (.box 0),oQ 4 (.mov (.c (.bool false)))]) (.seq (.seq (rR [1,2,20] [qA 8 2 2,oQ 9 (cF 64 [8,(.c (.int .i64 150))]),qM 10 9,oG 11 10 false (.aZ 1 2),oG 12 10 false (.load false 1 11),oG 13 10 false (.len false 12),oG 14 10 false (.bin .gtr 13 (.c (.int .i64 10))),oQ 15 (.pick 10 (.c (.bool true)) 14),qM 16 15,oG 17 16 false (.mov 1),oG 18 16 false (.len false 17),oG 19 16 false (.bin .gtr 18 (.c (.int .i64 30))),oQ 20 (.pick 16 (.c (.bool true)) 19)]) (.cond 20 (.seq (rR [4] [oQ 4 (.mov (.c (.bool true)))]) .ret) .skip)) (.seq (.seq (rR [1,2,5] [oQ 5 (.mov (.c (.int .i64 0)))]) (.block 0 (.loop (.seq (.seq (rR [1,2,5,25] [qM 21 5,qF 22 1 2,qL 23 22,oQ 24 (.len false 23),oQ 25 (.bin .lss 21 24)]) (.cond 25 .skip (.exit 0))) (.seq (.block 1 (.seq (.reg true [1,2,5,43] [qF 28 1 2,qL 29 28,qM 30 5,qI 31 6 29 30,qF 32 1 31,qL 33 32,oQ 34 (.len false 33),qF 35 1 2,qL 36 35,qM 37 5,qI 38 6 36 37,qF 39 2 38,qL 40 39,oQ 41 (.len false 40),oQ 42 (.bin .add 34 41),oQ 43 (.bin .gtr 42 (.c (.int .i64 8)))])
 (.cond 43 (.seq (rR [4] [oQ 4 (.mov (.c (.bool true)))]) .ret) .skip))) (rR [1,2,5] [qM 26 5,oQ 27 (.bin .add 26 (.c (.int .i64 1))),qM 5 27])))))) (.seq (.seq (rR [1,6] [oQ 6 (.mov (.c (.int .i64 0)))]) (.block 2 (.loop (.seq (.seq (rR [1,6,47] [qM 44 6,qM 45 1,oQ 46 (.len false 45),oQ 47 (.bin .lss 44 46)]) (.cond 47 .skip (.exit 2))) (.seq (.block 3 (.seq (.seq (rR [1,6,65] [qM 50 1,qM 51 6,qI 52 6 50 51,qF 53 3 52,qL 54 53,oQ 55 (.len false 54),oQ 56 (.bin .gtr 55 (.c (.int .i64 8))),qM 57 56,oG 58 57 false (.mov 1),oG 59 57 false (.mov 6),oG 60 57 false (.idx 6 58 59),oG 61 57 false (.aZ 4 60),oG 62 57 false (.load false 1 61),oG 63 57 false (.len false 62),oG 64 57 false (.bin .gtr 63 (.c (.int .i64 8))),oQ 65 (.pick 57 (.c (.bool true)) 64)]) (.cond 65 (.seq (rR [4] [oQ 4 (.mov (.c (.bool true)))]) .ret) .skip)) (.seq (rR [1,6,7] [oQ 7 (.mov (.c (.int .i64 0)))])
 (.block 4 (.loop (.seq (.seq (rR [1,6,7,73] [qM 66 7,qM 67 1,qM 68 6,qI 69 6 67 68,qF 70 4 69,qL 71 70,oQ 72 (.len false 71),oQ 73 (.bin .lss 66 72)]) (.cond 73 .skip (.exit 4))) (.seq (.block 5 (.seq (rR [1,6,7,85] [qM 76 1,qM 77 6,qI 78 6 76 77,qF 79 4 78,qL 80 79,qM 81 7,qI 82 1 80 81,qL 83 82,oQ 84 (.len false 83),oQ 85 (.bin .gtr 84 (.c (.int .i64 20)))]) (.cond 85 (.seq (rR [4] [oQ 4 (.mov (.c (.bool true)))]) .ret) .skip))) (rR [1,6,7] [qM 74 7,oQ 75 (.bin .add 74 (.c (.int .i64 1))),qM 7 75])))))))) (rR [1,6] [qM 48 6,oQ 49 (.bin .add 48 (.c (.int .i64 1))),qM 6 49])))))) (.seq (rR [4] [oQ 4 (.mov (.c (.bool false)))]) .ret)))))
theorem jI(hn:ab.length<=86)(h:SP Tryz.prog true ab bs js [.slot 4] Q):AM.Sem Tryz.prog 20 ab bs Q:=
 oZ (keeps:=[(0,[1,2]),(1,[1,2,20]),(2,[4]),(3,[1,2,5]),(4,[1,2,5,25]),(6,[1,2,5,43]),(7,[4]),(5,[1,2,5]),(8,[1,6]),(9,[1,6,47]),(11,[1,6,65]),(12,[4]),(13,[1,6,7]),(14,[1,6,7,73]),(16,[1,6,7,85]),(17,[4]),(15,[1,6,7]),(10,[1,6]),(18,[4])]) (solo:=[]) Tryz.func20 rfl hn h
def j3:RC:=
 (.seq (rR [0] [oQ 0 (.box (.c (.agg [(.str ⟨⟨[]⟩⟩),(.sl .full []),(.sl .full []),(.sl .full []),(.sl .full []),(.int .i64 0)])))]) (.seq (rR [0] [oQ 1 (cF 59 [(.c (.int .i64 0))]),oQ 2 (cF 59 [(.c (.int .i64 1))]),oQ 3 (.aQ 4 [1,2]),oQ 4 (.build [(.str ⟨⟨[]⟩⟩),(.sl .full [])] [(0,1,(.c (.str ⟨⟨[112]⟩⟩))),(1,1,3)]),oQ 5 (cF 59 [(.c (.int .i64 1))]),oQ 6 (cF 60 [(.c (.int .i64 3))]),oQ 7 (cF 59 [(.c (.int .i64 2))]),oQ 8 (.aQ 4 [5,6,7]),oQ 9 (.build [(.str ⟨⟨[]⟩⟩),(.sl .full [])] [(0,1,(.c (.str ⟨⟨[113]⟩⟩))),(1,1,8)]),oQ 10 (.aQ 2 [4,9]),oQ 11 (.build [(.str ⟨⟨[]⟩⟩),(.sl .full []),(.sl .full []),(.sl .full []),(.sl .full []),(.int .i64 0)] [(1,1,10),(5,1,(.c (.int .i64 3)))]),oN (.store 6 0 11)]) .ret))
theorem kj(hn:ab.length<=12)(h:SP Tryz.prog true ab bs j3 [.cell 0 true 6] Q):AM.Sem Tryz.prog 57 ab bs Q:=
 oZ (keeps:=[(0,[0]),(1,[0])]) (solo:=[]) Tryz.func57 rfl hn h
def j4:RC:=
 (.seq (rR [] [oQ 0 (.mov (.c (.bool false)))]) (.seq (rR [1] [oQ 4 (cF 57 []),oQ 5 (.aQ 6 [4]),oQ 6 (.build [(.sl .full []),(.sl .full [])] [(1,1,5)]),oQ 1 (.box (.c (.agg [(.sl .full []),(.sl .full [])]))),oN (.store 2 1 6)]) (.seq (rR [1,2] [oQ 7 (.aQ 1 [(.c (.int .i64 1))]),oQ 8 (.aQ 1 [(.c (.int .i64 0)),(.c (.int .i64 1))]),oQ 9 (.aQ 1 [8]),oQ 10 (.build [(.int .i64 0),(.int .i64 0),(.bool false),(.sl .full []),(.sl .full []),(.sl .full [])] [(3,1,7),(4,1,9)]),oQ 2 (.box (.c (.agg [(.int .i64 0),(.int .i64 0),(.bool false),(.sl .full []),(.sl .full []),(.sl .full [])]))),oN (.store 6 2 10)]) (.seq (rR [1,2,3] [qA 11 2 1,qA 12 6 2,qA 13 6 2,oQ 14 (.aQ 6 [12,13]),oQ 15 (cF 22 [11,14]),qM 3 15]) (.seq (rR [0] [oQ 16 (cF 57 []),oQ 17 (.aQ 1 [(.c (.int .i64 0))]),oQ 18 (cF 24 [16,17,(.c (.int .i64 1))]),oQ 19 (.aQ 1 [(.c (.int .i64 0)),(.c (.int .i64 1))]),oQ 20 (cF 17 [18,19]),qM 21 20,oG 22 21 true (.mov 3),oG 23 21 true (.len false 22),oG 24 21 true (.bin .eql 23 (.c (.int .i64 1))),oQ 25 (.pick 21 24 (.c (.bool false))),qM 26 25,oG 27 26 true (.mov 3),oG 28 26 true (.idx 3 27 (.c (.int .i64 0))),oG 29 26 true (.aZ 0 28),oG 30 26 true (.load false 1 29),oG 31 26 true (.bin .eql 30 (.c (.str ⟨⟨[113]⟩⟩))),oQ 32 (.pick 26 31 (.c (.bool false))),qM 33 32,oG 34 33 true (.mov 3),oG 35 33 true (.idx 3 34 (.c (.int .i64 0))),oG 36 33 true (.aZ 1 35),oG 37 33 true (.load false 1 36),oG 38 33 true (.bin .eql 37 (.c (.int .i64 3))),oQ 39 (.pick 33 38 (.c (.bool false))),qM 40 39,oG 41 40 true (.load true 2 1),oG 42 40 true (.mov 3),oG 43 40 true (.load true 6 2),oG 44 40 true (cF 23 [41,42,43,(.c (.int .i64 0))]),oG 45 40 true (.bin .eql 44 (.c (.int .i64 0))),oQ 46 (.pick 40 45 (.c (.bool false))),qM 47 46,oG 48 47 true (.load true 2 1),oG 49 47 true (.mov 3),oG 50 47 true (.load true 6 2),oG 51 47 true (cF 23 [48,49,50,(.c (.int .i64 1))]),oG 52 47 true (.bin .eql 51 (.c (.int .i64 (-1)))),oQ 53 (.pick 47 52 (.c (.bool false))),qM 54 53,oG 55 54 true (.load true 2 1),oG 56 54 true (.load true 6 2),oG 57 54 true (cF 25 [55,56,(.c (.int .i64 0))]),oG 58 54 true (cF 59 [(.c (.int .i64 1))]),oG 59 54 true (cF 60 [(.c (.int .i64 3))]),oG 60 54 true (.aQ 4 [58,59]),oG 61 54 true (cF 58 [57,60]),oQ 62 (.pick 54 61 (.c (.bool false))),qM 0 62])
 .ret)))))
theorem kn(hn:ab.length<=63)(h:SP Tryz.prog true ab bs j4 [.slot 0] Q):AM.Sem Tryz.prog 18 ab bs Q:=
 oZ (keeps:=[(0,[]),(1,[1]),(2,[1,2]),(3,[1,2,3]),(4,[0])]) (solo:=[]) Tryz.func18 rfl hn h
theorem nK(hn:ab.length<=8)(h:SP Tryz.prog false ab bs oo [.slot 3] Q):AM.Sem Tryz.prog 74 ab bs Q:=
 oZ (keeps:=[(0,[0,1]),(1,[3])]) (solo:=[]) Tryz.func74 rfl hn h
end Go.CK
namespace Go.AM
open Go.CK Go.RowKit
section
variable{P:Program}{F:Fence}{n:Nat}
end
section
variable{P:Program}{E:Entry}{G:Gh}{s:St}{a:Act}{w:World}
end
section
variable{P:Program}{nt:Nat}{ops:Array Oper}{E:Entry}{rd:Option Nat}{n:Nat}
end
end Go.AM
namespace Go.AM
open Go.CK Go.RowKit
namespace AV
def rn0(f:Nat->Nat):AV->AV
 |.ptr b o=>.ptr (f b) o
 |.yl b=>.yl (f b)
 |.bsl b m k=>.bsl (f b) m k
 |.elp b i z o=>.elp (f b) i z o
 |.mpt b=>.mpt (f b)
 |x=>x
def rn1(f:Nat->Nat):AV->AV
 |.fn g xs ys=>.fn g (xs.map (rn0 f)) (ys.map (rn0 f))
 |x=>x.rn0 f
def rn2(f:Nat->Nat):AV->AV
 |.agg cs=>.agg (cs.map (rn1 f))
 |x=>x.rn1 f
def rn(f:Nat->Nat):AV->AV
 |.agg cs=>.agg (cs.map (rn1 f))
 |.tup cs=>.tup (cs.map (rn2 f))
 |x=>x.rn1 f
def at0(p:Nat->Bool):AV->Bool
 |.ptr b _=>p b
 |.yl b=>p b
 |.bsl b _ _=>p b
 |.elp b _ _ _=>p b
 |.mpt b=>p b
 |.ept _=>true
 |v=>v.aW
def at1(p:Nat->Bool):AV->Bool
 |.fn _ xs ys=>xs.all (at0 p)&&ys.all (at0 p)
 |v=>v.at0 p
def at2(p:Nat->Bool):AV->Bool
 |.agg cs=>cs.all (at1 p)
 |v=>v.at1 p
def atp(p:Nat->Bool):AV->Bool
 |.agg cs=>cs.all (at1 p)
 |.tup cs=>cs.all (at2 p)
 |.ept _=>true
 |.sl _ _=>true
 |v=>v.at1 p
end AV
section
variable{M:Hp}{σ σ':Nat->Nat}{n n':Nat}{f:Nat->Nat}{p:Nat->Bool}
theorem RV.rn0(hf:∀b,p b=true->b<n->σ' (f b)=σ b/\f b<n'){x:AV}{v:Value}(h:RV M σ n x v)(hp:x.at0 p=true):RV M σ' n' (x.rn0 f) v:=by
 cases x<;>simp only[AV.at0] at hp<;>simp only[AV.rn0]<;>first|exact .flat (h.aW hp)|skip
 case ptr b o=>obtain⟨rfl,hb⟩:=h.iQ;obtain⟨h1,h2⟩:=hf b hp hb;rw[<-h1];exact .ptr _ _ h2
 case ept cs=>obtain⟨B,off,rfl,hc⟩:=h.oL;exact .ept cs B off hc
 case yl b=>obtain⟨rfl,hb⟩:=h.ER;obtain⟨h1,h2⟩:=hf b hp hb;rw[<-h1];exact .yl _ h2
 case bsl b m k=>obtain⟨a,rfl,hb,h3,h4,h5⟩:=h.c6;obtain⟨h1,h2⟩:=hf b hp hb;exact .bsl _ _ _ a h2 h3 h4 (by rw[h1];exact h5)
 case elp b i z o=>obtain⟨rfl,hb⟩:=h.oM;obtain⟨h1,h2⟩:=hf b hp hb;rw[<-h1];exact .elp _ _ _ _ h2
 case mpt b=>obtain⟨rfl,hb⟩:=h.cr;obtain⟨h1,h2⟩:=hf b hp hb;rw[<-h1];exact .mpt _ h2
theorem RV.rn1(hf:∀b,p b=true->b<n->σ' (f b)=σ b/\f b<n'){x:AV}{v:Value}(h:RV M σ n x v)(hp:x.at1 p=true):RV M σ' n' (x.rn1 f) v:=by
 cases x<;>first|exact RV.rn0 hf h hp|skip
 case fn g xs ys=>
  simp only[AV.at1,zD,zT] at hp;obtain⟨us,vs,rfl,h1,h2,h3,h4⟩:=h.pI;refine .fn g _ _ us vs (by simpa using h1) (by simpa using h2) (λj hj v hv=>?_) (λj hj v hv=>?_)
  .simp only[zF] at hj;rw[ZD];exact RV.rn0 hf (h3 j hj v hv) (hp.1 _ (zc hj))
  .simp only[zF] at hj;rw[ZD];exact RV.rn0 hf (h4 j hj v hv) (hp.2 _ (zc hj))
theorem RV.GH(hf:∀b,p b=true->b<n->σ' (f b)=σ b/\f b<n'){cs:List AV}{v:Value}(h:RV M σ n (.agg cs) v)(hp:cs.all (AV.at1 p)=true):RV M σ' n' (.agg (cs.map (AV.rn1 f))) v:=by
 simp only[zT] at hp;obtain⟨vs,rfl,hl,h1,hv⟩:=h.dw;refine .agg _ vs (by simpa using hl) h1 λj hj v hjv=>?_
 simp only[zF] at hj;rw[ZD];exact RV.rn1 hf (hv j hj v hjv) (hp _ (zc hj))
theorem RV.rn2(hf:∀b,p b=true->b<n->σ' (f b)=σ b/\f b<n'){x:AV}{v:Value}(h:RV M σ n x v)(hp:x.at2 p=true):RV M σ' n' (x.rn2 f) v:=by
 cases x<;>first|exact RV.rn1 hf h hp|exact RV.GH hf h hp
theorem RV.rn(hf:∀b,p b=true->b<n->σ' (f b)=σ b/\f b<n'){x:AV}{v:Value}(h:RV M σ n x v)(hp:x.atp p=true):RV M σ' n' (x.rn f) v:=by
 cases x<;>first|exact RV.rn1 hf h hp|exact RV.GH hf h hp|skip
 case sl o l=>
  cases h with|flat h=>exact .flat h
 case tup cs=>
  simp only[AV.atp,zT] at hp;obtain⟨vs,rfl,hl,hv⟩:=h.qZ;refine .tup _ vs (by simpa using hl) λj hj v hjv=>?_
  simp only[zF] at hj;rw[ZD];exact RV.rn2 hf (hv j hj v hjv) (hp _ (zc hj))
end
theorem xH(f:Nat->Nat)(x:AV):(x.rn f).aF=x.aF.rn f:=by
 cases x with
 |sl o l=>cases o<;>rfl
 |_=>rfl
theorem vJ(p:Nat->Bool)(x:AV):x.aF.atp p=x.atp p:=by
 cases x with
 |sl o l=>cases o<;>rfl
 |_=>rfl
theorem Eh{f:Nat->Nat}{x:AV}{z:Nat}{l:List AV}(h:x.rn f=.sl (.own z) l):x=.sl (.own z) l:=by
 cases x<;>simp only[AV.rn,AV.rn1,AV.rn0] at h<;>first|exact h|cases h
theorem G9{f:Nat->Nat}{x:AV}(h:x.aW=true):x.rn f=x:=by
 cases x<;>first|rfl|(simp[AV.aW] at h)
def rnB(f:Nat->Nat):Box->Box
 |.cells cs=>.cells (cs.map (AV.rn f))
 |x=>x
def atB(p:Nat->Bool):Box->Bool
 |.cells cs=>cs.all (AV.atp p)
 |.row cs=>cs.all AV.aW
 |.loop _=>false
 |_=>true
def qy:List Box->Nat->Box
 |[],_=>.dead
 |x::_,0=>x
 |_::r,k+1=>qy r k
theorem tE:∀{bs:List Box} {k:Nat} {x:Box},bs[k]? =some x->qy bs k=x
 |[],k,x,h=>by simp at h
 |y::r,0,x,h=>by simpa[qy] using h
 |y::r,k+1,x,h=>by simpa[qy] using tE (bs:=r) (k:=k) (by simpa using h)
theorem Hb(f:Nat->Nat){p:Nat->Bool}{x:Box}(h:atB p x=true):(rnB f x).cs? =x.cs?.map (List.map (AV.rn f)):=by
 cases x<;>first|rfl|skip
 case row cs=>
  simp only[atB,zT] at h
  cases cs with
  |nil=>rfl
  |cons c cs=>
   show some (c::cs)=some ((c::cs).map (AV.rn f));congr 1;exact((List.map_congr_left λy hy=>G9 (h y hy)).trans (List.map_id' _)).symm
theorem Ha(f:Nat->Nat)(x:Box):(rnB f x).lb? =x.lb?:=by cases x<;>rfl
theorem DK{p:Nat->Bool}{x:Box}{cs:List AV}(h:atB p x=true)(hc:x.cs? =some cs):∀c∈cs,c.atp p=true:=by
 cases x with
 |cells ds=>cases hc;simpa[atB] using h
 |row ds=>
  rw[i6] at hc;split at hc
  .cases hc
  .cases hc;simp only[atB,zT] at h;intro c hcm;have:=h c hcm
   cases c<;>first|rfl|(simp[AV.aW] at this)
 |dead=>cases hc
 |loop y=>cases hc
 |mp l=>cases hc
 |mq l c=>cases hc
 |tab x=>cases hc
theorem HO{p:Nat->Bool}{x:Box}{y:LB}(h:atB p x=true)(hc:x.lb? =some y):y.n=0/\∀M:Hp,y.M.le M:=by
 cases x<;>simp only[Box.lb?,zO,atB] at hc h<;>first|(cases hc;done)|(cases h;done)|skip
 all_goals
  subst hc;exact⟨rfl,λM _ _ _ e=>by cases e⟩
end Go.AM
namespace Go.AM
open Go.CK Go.RowKit
def ui(own:List Box)(c0 i:Nat)(ds0:List AV)(x:AV):List Box:=own.set c0 (.cells (ds0.set i x))
theorem aG.gcB{env:List (Nat×AV)}{own J:List Box}{cs ds0:List AV}{lo c0 i m k:Nat}(hc0:own[c0]? =some (.cells ds0))(hi:i<ds0.length)(hlo:lo<=own.length)(he:∀u x,au env u=some x->x.lt own.length=true)(ho:al own.length own=true)(hd:∀x∈cs,x.aF=x/\x.lt own.length=true):
  aG ⟨env,ui own c0 i ds0 (.bsl (own.length+J.length) m k)++(J++[.row cs]),lo⟩ ⟨env,ui own c0 i ds0 (.bsl own.length m k)++[.row cs],lo⟩:=λE G a w hs=>by
 have hc1:aa own c0=some ds0:=by simp only[aa,hc0];rfl
 have hcl:c0<own.length:=aC hc1;have hpl:∀x,(ui own c0 i ds0 x).length=own.length:=λx=>by simp[ui]
 have hpc:∀x c,aa (ui own c0 i ds0 x) c=if c=c0 then some (ds0.set i x) else aa own c:=λx c=>cx hc1 _ c;obtain⟨B1,hB1⟩:∃B1,B1=ui own c0 i ds0 (.bsl (own.length+J.length) m k):=⟨_,rfl⟩;obtain⟨B2,hB2⟩:∃B2,B2=ui own c0 i ds0 (.bsl own.length m k):=⟨_,rfl⟩;have hl1:B1.length=own.length:=by rw[hB1];exact hpl _
 have hl2:B2.length=own.length:=by rw[hB2];exact hpl _
 have hp1:∀c,aa B1 c=if c=c0 then some (ds0.set i (.bsl (own.length+J.length) m k)) else aa own c:=by rw[hB1];exact hpc _
 have hp2:∀c,aa B2 c=if c=c0 then some (ds0.set i (.bsl own.length m k)) else aa own c:=by rw[hB2];exact hpc _
 rw[<-hB1] at hs;rw[<-hB2]
 have hb1:∀c ds,aa (B2++[.row cs]) c=some ds->(c=own.length/\ds=cs/\cs≠[])\/(c<own.length/\aa B2 c=some ds):=λc ds h=>by
  rw[aI,hl2] at h;split at h
  .rename_i e;rw[i6] at h;split at h
   .cases h
   .rename_i h1;cases h;exact .inl ⟨e,rfl,h1⟩
  .exact .inr ⟨hl2▸aC h,h⟩
 have hb2:∀c,c<own.length->aa (B1++(J++[.row cs])) c=aa B1 c:=λc hc=>by simp only[aa,zK (show c<B1.length by omega)]
 have hb3:cs≠[]->aa (B1++(J++[.row cs])) (own.length+J.length)=some cs:=λh=>by
  rw[<-hl1];simp[aa,i6,h]
 have hlb:∀c x,ai B2 c=some x->ai B1 c=some x:=λc x h=>by
  rw[hB2] at h;rw[hB1];simp only[ai,ui,zq] at h|-
  by_cases e:c0=c
  .simp [e,Box.lb?] at h;split at h<;>first|(cases h;done)|(rename_i q;split at q<;>simp at q;subst q;cases h)
  .rw [if_neg e] at h|-;exact h
 have hlp1:∀c x,ai (B2++[.row cs]) c=some x->ai B1 c=some x:=λc x h=>hlb c x (dZ rfl h)
 have hlp2:∀c x,ai B1 c=some x->ai (B1++(J++[.row cs])) c=some x:=λc x h=>by
  simp only[ai,zK (aL h)];exact h
 have hlen:(B1++(J++[Box.row cs])).length=own.length+J.length+1:=by simp[hl1];omega
 have hlen':(B2++[Box.row cs]).length=own.length+1:=by simp[hl2]
 obtain⟨f,hf⟩:∃f:Nat->Nat,f=λc=>if c=own.length then own.length+J.length else c:=⟨_,rfl⟩;obtain⟨σ',hσ'⟩:∃σ':Nat->Nat,σ'=λc=>G.σ (f c):=⟨_,rfl⟩;have hfl:∀c,c<own.length->f c=c:=λc hc=>by rw[hf];simp only;rw[if_neg (by omega)]
 have hfb:f own.length=own.length+J.length:=by rw[hf];simp
 have hσl:∀c,c<own.length->σ' c=G.σ c:=λc hc=>by rw[hσ'];simp only;rw[hfl c hc]
 have hbox:∀c ds,aa (B2++[.row cs]) c=some ds->(∃ds1,aa (B1++(J++[.row cs])) (f c)=some ds1/\ds.length<=ds1.length/\∀(j:Nat) (x:AV),ds[j]? =some x->(c=c0/\j=i/\x=.bsl own.length m k/\ds1[j]? =some (.bsl (own.length+J.length) m k))\/(ds1[j]? =some x/\¬(c=c0/\j=i)/\x.aF.lt own.length=true/\((c=own.length/\x.aF=x)\/f c=c)))/\σ' c=G.σ (f c):=λc ds h=>by
  refine⟨?_,by rw[hσ']⟩
  rcases hb1 c ds h with ⟨rfl,rfl,h1⟩|⟨h1,h2⟩
  .refine ⟨ds,by rw[hfb];exact hb3 h1,zG _,λj x hx=>.inr ⟨hx,λe=>by omega,?_,.inl ⟨rfl,(hd x (zE hx)).1⟩⟩⟩
   obtain⟨q1,q2⟩:=hd x (zE hx);rw[q1];exact q2
  .rw [hfl c h1,hb2 c h1,hp1];rw[hp2] at h2
   by_cases e:c=c0
   .rw [if_pos e] at h2|-;cases h2;refine⟨_,rfl,by simp,λj x hx=>?_⟩
    rw[zq] at hx
    by_cases e2:i=j
    .subst e2;rw[if_pos rfl,if_pos hi] at hx;cases hx;exact .inl ⟨e,rfl,rfl,by simp[hi]⟩
    .rw [if_neg e2] at hx;refine .inr ⟨by rw[zq,if_neg e2];exact hx,λq=>e2 q.2.symm,?_,.inr rfl⟩
     rw[ku];exact bI ho hc1 hx
   .rw [if_neg e] at h2|-;refine⟨ds,h2,zG _,λj x hx=>.inr ⟨hx,λq=>e q.1,?_,.inr rfl⟩⟩;rw[ku];exact bI ho h2 hx
 have hinj:∀c c' ds ds',aa (B2++[.row cs]) c=some ds->aa (B2++[.row cs]) c'=some ds'->f c=f c'->c=c':=λc c' ds ds' h h' e=>by
  rcases hb1 c ds h with ⟨rfl,_,_⟩|⟨h1,_⟩<;>rcases hb1 c' ds' h' with ⟨rfl,_,_⟩|⟨h2,_⟩
  .rfl
  .rw [hfb,hfl c' h2] at e;omega
  .rw [hfl c h1,hfb] at e;omega
  .rw [hfl c h1,hfl c' h2] at e;exact e
 have hmono:∀x v,x.lt own.length=true->RV G.M G.σ (B1++(J++[Box.row cs])).length x v->RV G.M σ' (B2++[Box.row cs]).length x v:=λx v hx h=>
  (h.lt hx).mono (Hp.le_refl _) (by rw[hlen'];omega) hσl
 have hat:∀p x,(⟨env,B2++[.row cs],lo⟩:St).at p=some x->(p=.bx c0 i/\x=.bsl own.length m k/\(⟨env,B1++(J++[.row cs]),lo⟩:St).at (.bx c0 i)=some (.bsl (own.length+J.length) m k))\/(∃u,p=.sl u/\au env u=some x)\/∃c j,p=.bx c j/\(⟨env,B1++(J++[.row cs]),lo⟩:St).at (.bx (f c) j)=some x/\σ' c=G.σ (f c)/\x.aF.lt own.length=true/\((c=own.length/\x.aF=x)\/f c=c):=λp x hp=>by
  cases p with
  |sl u=>exact .inr (.inl ⟨u,rfl,hp⟩)
  |bx c j=>
   simp only[St.at] at hp
   cases hc:aa (B2++[.row cs]) c with
   |none=>rw[hc] at hp;cases hp
   |some ds=>
    rw[hc] at hp;simp only[ZG] at hp;obtain⟨⟨ds1,h1,_,h3⟩,h2⟩:=hbox c ds hc;rcases h3 j x hp with ⟨rfl,rfl,rfl,h4⟩|⟨h4,_,h5,h6⟩
    .refine .inl ⟨rfl,rfl,?_⟩;rw[hfl _ hcl] at h1;simp only[St.at,h1,ZG];exact h4
    .exact .inr (.inr ⟨c,j,rfl,by simp only[St.at,h1,ZG];exact h4,h2,h5,h6⟩)
 have hva:∀c j,σ' c=G.σ (f c)->ay σ' a w (.bx c j)=ay G.σ a w (.bx (f c) j):=λc j e=>by simp only[ay,e]
 have hv0:ay σ' a w (.bx c0 i)=ay G.σ a w (.bx c0 i):=by simp only[ay,hσl _ hcl]
 refine⟨{G with σ:=σ'},hs.fr,hs.ok,hs.nt,λp x hp=>?_,λc j x hp=>?_,λc ds hc=>?_,λc ds hc=>?_,λc c' ds ds' hc hc' e=>?_,λp z l hp=>?_,hs.clinj,λp B hB c ds hc=>?_,hs.cllt,hs.lo,?_,λc hc=>?_,?_⟩
 .rcases hat p x hp with ⟨rfl,rfl,hx⟩|⟨u,rfl,hx⟩|⟨c,j,rfl,hx,e,hlt,_⟩
  .have hv:=hs.val _ _ hx;obtain⟨ad,h1,_,h3,h4,h5⟩:=hv.c6;show RV G.M σ' _ _ (ay σ' a w (.bx c0 i));rw[hv0,h1];refine .bsl _ _ _ _ (by simp[hl2]) h3 h4 λhk=>?_
   rw[h5 hk,hσ'];simp only[hfb]
  .have hv:=hs.val (.sl u) x (show (⟨env,B1++(J++[.row cs]),lo⟩:St).at (.sl u)=some _ from hx);exact hmono _ _ (by rw[ku];exact he u x hx) hv
  .show RV G.M σ' _ _ (ay σ' a w (.bx c j));rw[hva c j e];exact hmono _ _ hlt (hs.val _ x hx)
 .rcases hat _ x hp with ⟨e,_,hx⟩|⟨u,e,_⟩|⟨c',j',e,hx,e2,_,_⟩
  .cases e;show (ay σ' a w (.bx c0 i)).oneCell'=true;rw[hv0];exact hs.one _ _ _ hx
  .cases e
  .cases e;show (ay σ' a w (.bx c j)).oneCell'=true;rw[hva c j e2];exact hs.one _ _ _ hx
 .obtain ⟨⟨ds1,h1,h3,_⟩,h2⟩:=hbox c ds hc;show∃vs T,w.heap[σ' c]? =_/\_;rw[h2];obtain⟨vs,T,q1,q2⟩:=hs.box _ ds1 h1;exact⟨vs,T,q1,ZN h3 q2⟩
 .obtain ⟨⟨ds1,h1,_,_⟩,h2⟩:=hbox c ds hc;show (∀o,G.M (σ' c) o=none)/\(E.FP (σ' c)\/E.w.heap.size<=σ' c);rw[h2];exact hs.bmem _ ds1 h1
 .obtain ⟨⟨ds1,h1,_,_⟩,h2⟩:=hbox c ds hc;obtain⟨⟨ds1',h1',_,_⟩,h2'⟩:=hbox c' ds' hc';have e:σ' c=σ' c':=e;rw[h2,h2'] at e;exact hinj c c' ds ds' hc hc' (hs.inj _ _ ds1 ds1' h1 h1' e)
 .rcases hat p _ hp with ⟨_,e,_⟩|⟨u,rfl,hx⟩|⟨c,j,rfl,hx,e,_,hc⟩
  .cases e
  .exact hs.own (.sl u) z l hx
  .rcases hc with ⟨_,hc⟩|hc
   .simp [AV.aF] at hc
   .show∃ad k,ay σ' a w (.bx c j)=_/\_;rw[hva c j e,hc];rw[hc] at hx;exact hs.own _ z l hx
 .obtain ⟨⟨ds1,h1,_,_⟩,h2⟩:=hbox c ds hc;show σ' c≠B;rw[h2];exact hs.clbox p B hB _ ds1 h1
 .show E.nb<=(B2++[Box.row cs]).length;have:lo=E.nb:=hs.lo;rw[hlen'];omega
 .have:lo=E.nb:=hs.lo;show σ' c=_;rw[hσl c (by omega)];exact hs.sig c hc
 .exact ((hs.sp.loops (bs':=B1) hlp2).step (Hp.le_refl _) (λc hc=>hσl c (hl1▸hc)) (λc x h=>hlp1 c x h) (λ_ _ k _=>k) (λ_ _ _ _ p k=>⟨p,k⟩) (λ_ k=>k))
theorem aq.gcB{α:Type}{f:α->AV}{z:Nat}(hp:Plain f z)(own J:List Box)(c0 i:Nat)(ds0:List AV){s s':St}{l:List α}{m k k':Nat}(hb:s.bs=ui own c0 i ds0 (.bsl (own.length+J.length) m k)++(J++[bh f z k' l]))(hc0:own[c0]? =some (.cells ds0))(hi:Nat.blt i ds0.length=true)(hlo:Nat.ble s.lo own.length=true)(he:eo own.length s.env=true)(ho:al own.length own=true)
  (h:aq ⟨s.env,ui own c0 i ds0 (.bsl own.length m k)++[bh f z k' l],s.lo⟩ s'):aq s s':=by
 obtain⟨env,bs,lo⟩:=s;simp only at hb;subst hb;exact⟨(aG.gcB hc0 (zr hi) (zr hlo) (λu x hu=>pQ he hu) ho λx hx=>hp.Ee l _ _ x hx).trans h.out⟩
theorem aG.qV(s:St)(q:Pl)(h0:s.at q=some (.sl .full []))(h1:(⟨s.env,s.bs++[.row []],s.lo⟩:St).at q=some (.sl .full [])):aG s ((⟨s.env,s.bs++[.row []],s.lo⟩:St).upd q (.bsl s.bs.length 0 0)):=λE G a w hs=>by
 have h2:=hs.Ef;have hv:=h2.val _ _ h1;simp only[AV.aF] at hv;refine⟨G,h2.upd (q:=q) h1 ?_⟩;obtain⟨ad,kk,B,off,sz',e1,_,_,_,e2,_⟩:=hv.dN;have:=e2 rfl;subst this;rw[e1];exact .bsl _ _ _ _ (by simp) (zG _) (zJ _) (λh=>absurd rfl h)
theorem aq.qV{s t:St}(q:Pl)(h0:s.at q=some (.sl .full []))(h1:(⟨s.env,s.bs++[.row []],s.lo⟩:St).at q=some (.sl .full []))(h:aq ((⟨s.env,s.bs++[.row []],s.lo⟩:St).upd q (.bsl s.bs.length 0 0)) t):aq s t:=⟨(aG.qV s q h0 h1).trans h.out⟩
end Go.AM
