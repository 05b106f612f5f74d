/-
  Texts of this bj joined (wip/gen/bundle.py),those declarations only that are needed:RcChk IxC IxD. By an AI agent.
-/
import Derived.Test.YtcjfkbdbcgmomaaGreatDoorBbb
set_option linter.unusedSimpArgs false
set_option linter.unusedVariables false
set_option maxRecDepth 100000
namespace Go.CK
open Go.AM Go.Proofs
variable{ab:List AV}{bs:List Box}{Q:AV->List Box->Prop}
def fF:RC:=
 (.seq (rR [0,1,2] [oQ 6 (.mov (.c (.bool false)))]) (.seq (.seq (rR [0,1,2,7] [oQ 7 (.mov (.c (.int .i64 0)))]) (.block 0 (.loop (.seq (.seq (rR [0,1,2,7,11] [qM 8 7,qM 9 0,oQ 10 (.len false 9),oQ 11 (.bin .lss 8 10)]) (.cond 11 .skip (.exit 0))) (.seq (.block 1 (.seq (rR [0,1,2,7,29] [qM 14 0,qM 15 7,qI 16 2 14 15,qF 17 0 16,qL 18 17,qM 19 1,oQ 20 (.bin .eql 18 19),qM 21 20,oG 22 21 true (.mov 0),oG 23 21 true (.mov 7),oG 24 21 true (.idx 2 22 23),oG 25 21 true (.aZ 1 24),oG 26 21 true (.load false 1 25),oG 27 21 true (.mov 2),oG 28 21 true (.bin .eql 26 27),oQ 29 (.pick 21 28 (.c (.bool false)))]) (.cond 29 (.seq (rR [6] [oQ 6 (.mov (.c (.bool true)))]) .ret) .skip))) (rR [0,1,2,7] [qM 12 7,oQ 13 (.bin .add 12 (.c (.int .i64 1))),qM 7 13])))))) (.seq (rR [6] [oQ 6 (.mov (.c (.bool false)))]) .ret)))
theorem fL(hn:ab.length<=30)(h:SP Tryz.prog true ab bs fF [.slot 6] Q):AM.Sem Tryz.prog 62 ab bs Q:=
 oZ (keeps:=[(0,[0,1,2]),(1,[0,1,2,7]),(2,[0,1,2,7,11]),(4,[0,1,2,7,29]),(5,[6]),(3,[0,1,2,7]),(6,[6])]) (solo:=[]) Tryz.func62 rfl hn h
def gm:RC:=
 (.seq (rR [0,1,2] [oQ 6 (.mov (.c (.int .i64 0)))]) (.seq (rR [0,1,2,7] [oQ 7 (.mov (.c (.int .i64 7)))]) (.seq (.seq (rR [0,1,2,7,8] [oQ 8 (.mov (.c (.int .i64 0)))]) (.block 0 (.loop (.seq (.seq (rR [0,1,2,7,8,12] [qM 9 8,qM 10 0,oQ 11 (.len false 10),oQ 12 (.bin .lss 9 11)]) (.cond 12 .skip (.exit 0))) (.seq (.block 1 (.seq (rR [0,1,2,7,8,21] [qM 15 0,qM 16 8,qI 17 2 15 16,qF 18 0 17,qL 19 18,qM 20 1,oQ 21 (.bin .eql 19 20)]) (.cond 21 (rR [0,1,2,7,8] [oQ 7 (.mov (.c (.int .i64 9)))]) .skip))) (rR [0,1,2,7,8] [qM 13 8,oQ 14 (.bin .add 13 (.c (.int .i64 1))),qM 8 14])))))) (.seq (.seq (rR [7,25] [qM 22 0,qM 23 1,qM 24 2,oQ 25 (cF 62 [22,23,24])]) (.cond 25 (.seq (rR [6] [oQ 6 (.mov (.c (.int .i64 0)))]) .ret) .skip)) (.seq (rR [6] [qM 26 7,qM 6 26]) .ret)))))
theorem gx(hn:ab.length<=27)(h:SP Tryz.prog true ab bs gm [.slot 6] Q):AM.Sem Tryz.prog 165 ab bs Q:=
 oZ (keeps:=[(0,[0,1,2]),(1,[0,1,2,7]),(2,[0,1,2,7,8]),(3,[0,1,2,7,8,12]),(5,[0,1,2,7,8,21]),(6,[0,1,2,7,8]),(4,[0,1,2,7,8]),(7,[7,25]),(8,[6]),(9,[6])]) (solo:=[]) Tryz.func165 rfl hn h
def jf:RC:=
 (.seq (rR [1] [oQ 1 (.box 0),oQ 2 (.mov (.c (.int .i64 0))),oQ 3 (.mov (.c (.int .i64 0)))]) (.seq (.seq (rR [1,11] [qF 8 0 1,qL 9 8,oQ 10 (.len false 9),oQ 11 (.bin .gtr 10 (.c (.int .i64 30)))]) (.cond 11 (.seq (rR [2,3] [oQ 2 (.mov (.c (.int .i64 (-1)))),oQ 3 (.mov (.c (.int .i64 6)))]) .ret) .skip)) (.seq (.seq (rR [1,4] [oQ 4 (.mov (.c (.int .i64 0)))]) (.block 0 (.loop (.seq (.seq (rR [1,4,16] [qM 12 4,qF 13 0 1,qL 14 13,oQ 15 (.len false 14),oQ 16 (.bin .lss 12 15)]) (.cond 16 .skip (.exit 0))) (.seq (.block 1 (.seq (rR [1,4,5] [qF 19 0 1,qL 20 19,qM 21 4,qI 22 2 20 21,qA 23 2 22,oQ 5 (.box (.c (.agg [(.str ⟨⟨[]⟩⟩),(.int .i64 0)]))),oN (.store 2 5 23)]) (.block 2 (.seq (rR [1,4,5,24] [qF 25 0 5,qL 26 25,oQ 27 (cF 61 [26]),oQ 28 (.un .not 27),qM 24 28]) (.cond 24 (.seq (rR [2,3] [oQ 2 (.mov (.c (.int .i64 (-1)))),oQ 3 (.mov (.c (.int .i64 7)))])
 .ret) (.seq (rR [1,4,5,29] [qF 30 1 5,qL 31 30,oQ 32 (.bin .lss 31 (.c (.int .i64 0))),qM 33 32,oG 34 33 false (.aZ 1 5),oG 35 33 false (.load false 1 34),oG 36 33 false (.bin .gtr 35 (.c (.int .i64 6))),oQ 37 (.pick 33 (.c (.bool true)) 36),qM 29 37]) (.cond 29 (.seq (rR [2,3] [oQ 2 (.mov (.c (.int .i64 (-1)))),oQ 3 (.mov (.c (.int .i64 9)))]) .ret) (.seq (.reg true [1,4,38] [qF 39 0 1,qL 40 39,oQ 41 (.take 4),oQ 42 (.slc 2 40 none (some 41) none),qF 43 0 5,qL 44 43,qF 45 1 5,qL 46 45,oQ 47 (cF 62 [42,44,46]),oQ 38 (.take 47)]) (.cond 38 (.seq (rR [2,3] [oQ 2 (.mov (.c (.int .i64 (-1)))),oQ 3 (.mov (.c (.int .i64 8)))]) .ret) .skip))))))))) (rR [1,4] [qM 17 4,oQ 18 (.bin .add 17 (.c (.int .i64 1))),qM 4 18])))))) (.seq (.seq (rR [1,51] [qF 48 1 1,qL 49 48,oQ 50 (.len false 49),oQ 51 (.bin .gtr 50 (.c (.int .i64 40)))]) (.cond 51 (.seq (rR [2,3] [
 oQ 2 (.mov (.c (.int .i64 (-1)))),oQ 3 (.mov (.c (.int .i64 6)))]) .ret) .skip)) (.seq (.seq (rR [1,6] [oQ 6 (.mov (.c (.int .i64 0)))]) (.block 3 (.loop (.seq (.seq (rR [1,6,56] [qM 52 6,qF 53 1 1,qL 54 53,oQ 55 (.len false 54),oQ 56 (.bin .lss 52 55)]) (.cond 56 .skip (.exit 3))) (.seq (.block 4 (.seq (.reg true [1,6,7] [qF 59 0 1,qL 60 59,qF 61 1 1,qL 62 61,oQ 63 (.take 6),qI 64 6 62 63,qA 65 6 64,oQ 66 (cF 63 [60,65]),oQ 7 (.take 66)]) (.seq (rR [1,6,7,68] [qM 67 7,oQ 68 (.bin .neq 67 (.c (.int .i64 0)))]) (.cond 68 (.seq (rR [2,3] [qM 69 6,qM 70 7,qM 2 69,qM 3 70]) .ret) .skip)))) (rR [1,6] [qM 57 6,oQ 58 (.bin .add 57 (.c (.int .i64 1))),qM 6 58])))))) (.seq (rR [2,3] [oQ 2 (.mov (.c (.int .i64 0))),oQ 3 (.mov (.c (.int .i64 0)))]) .ret))))))
theorem dm(hn:ab.length<=71)(h:SP Tryz.prog true ab bs jf [.slot 2,.slot 3] Q):AM.Sem Tryz.prog 19 ab bs Q:=
 oZ (keeps:=[(0,[1]),(1,[1,11]),(2,[2,3]),(3,[1,4]),(4,[1,4,16]),(6,[1,4,5]),(7,[1,4,5,24]),(9,[1,4,5,29]),(11,[1,4,38]),(12,[2,3]),(10,[2,3]),(8,[2,3]),(5,[1,4]),(13,[1,51]),(14,[2,3]),(15,[1,6]),(16,[1,6,56]),(18,[1,6,7]),(19,[1,6,7,68]),(20,[2,3]),(17,[1,6]),(21,[2,3])]) (solo:=[]) Tryz.func19 rfl hn h
def jb:RC:=
 (.seq (rR [1] [oQ 1 (.box 0),oQ 2 (.mov (.c (.sl .full [])))]) (.seq (.reg true [2] [oQ 3 (.aQ 2 []),qF 4 1 1,qL 5 4,oQ 6 (.append 2 3 5),qF 7 2 1,qL 8 7,oQ 9 (.append 2 6 8),oQ 2 (.take 9)]) .ret))
theorem ju(hn:ab.length<=10)(h:SP Tryz.prog true ab bs jb [.slot 2] Q):AM.Sem Tryz.prog 114 ab bs Q:=
 oZ (keeps:=[(0,[1]),(1,[2])]) (solo:=[]) Tryz.func114 rfl hn h
def jc:RC:=
 (.seq (rR [1] [oQ 1 (.box 0),oQ 2 (.mov (.c (.sl .full [])))]) (.seq (.reg true [2] [oQ 3 (.aQ 3 []),qF 4 3 1,qL 5 4,oQ 6 (.append 3 3 5),qF 7 4 1,qL 8 7,oQ 9 (.append 3 6 8),oQ 2 (.take 9)]) .ret))
theorem jv(hn:ab.length<=10)(h:SP Tryz.prog true ab bs jc [.slot 2] Q):AM.Sem Tryz.prog 115 ab bs Q:=
 oZ (keeps:=[(0,[1]),(1,[2])]) (solo:=[]) Tryz.func115 rfl hn h
def fE:RC:=
 (.seq (rR [1] [oQ 1 (.box 0),oQ 2 (.mov (.c (.sl .full [])))]) (.seq (rR [1,3] [oQ 3 (.mov (.c (.sl .full [])))]) (.seq (rR [3,4] [qA 6 6 1,oQ 7 (cF 114 [6]),qM 4 7]) (.seq (.seq (rR [3,4,5] [oQ 5 (.mov (.c (.int .i64 0)))]) (.block 0 (.loop (.seq (.seq (rR [3,4,5,11] [qM 8 5,qM 9 4,oQ 10 (.len false 9),oQ 11 (.bin .lss 8 10)]) (.cond 11 .skip (.exit 0))) (.seq (.block 1 (rR [3,4,5] [qM 14 3,qM 15 4,qM 16 5,qI 17 2 15 16,qF 18 1 17,qL 19 18,oQ 20 (.append 4 14 19),qM 3 20])) (rR [3,4,5] [qM 12 5,oQ 13 (.bin .add 12 (.c (.int .i64 1))),qM 5 13])))))) (.seq (rR [2] [qM 21 3,oQ 22 (cF 164 [21]),qM 2 22]) .ret)))))
theorem fK(hn:ab.length<=23)(h:SP Tryz.prog true ab bs fE [.slot 2] Q):AM.Sem Tryz.prog 168 ab bs Q:=
 oZ (keeps:=[(0,[1]),(1,[1,3]),(2,[3,4]),(3,[3,4,5]),(4,[3,4,5,11]),(6,[3,4,5]),(5,[3,4,5]),(7,[2])]) (solo:=[]) Tryz.func168 rfl hn h
def jV:RC:=
 (.seq (rR [1] [oQ 1 (.box 0),oQ 2 (.mov (.c (.sl .full [])))]) (.seq (rR [1,3] [oQ 3 (.mov (.c (.sl .full [])))]) (.seq (rR [1,3,4] [qA 8 6 1,oQ 9 (cF 114 [8]),qM 4 9]) (.seq (.seq (rR [1,3,4,5] [oQ 5 (.mov (.c (.int .i64 0)))]) (.block 0 (.loop (.seq (.seq (rR [1,3,4,5,13] [qM 10 5,qM 11 4,oQ 12 (.len false 11),oQ 13 (.bin .lss 10 12)]) (.cond 13 .skip (.exit 0))) (.seq (.block 1 (rR [1,3,4,5] [qM 16 3,qM 17 4,qM 18 5,qI 19 2 17 18,qF 20 1 19,qL 21 20,oQ 22 (.append 4 16 21),qM 3 22])) (rR [1,3,4,5] [qM 14 5,oQ 15 (.bin .add 14 (.c (.int .i64 1))),qM 5 15])))))) (.seq (rR [3,6] [qA 23 6 1,oQ 24 (cF 115 [23]),qM 6 24]) (.seq (.seq (rR [3,6,7] [oQ 7 (.mov (.c (.int .i64 0)))]) (.block 2 (.loop (.seq (.seq (rR [3,6,7,28] [qM 25 7,qM 26 6,oQ 27 (.len false 26),oQ 28 (.bin .lss 25 27)]) (.cond 28 .skip (.exit 2))) (.seq (.block 3 (rR [3,6,7] [
 qM 31 3,qM 32 6,qM 33 7,qI 34 3 32 33,qF 35 2 34,qL 36 35,oQ 37 (.append 4 31 36),qM 3 37])) (rR [3,6,7] [qM 29 7,oQ 30 (.bin .add 29 (.c (.int .i64 1))),qM 7 30])))))) (.seq (rR [2] [qM 38 3,oQ 39 (cF 164 [38]),qM 2 39]) .ret)))))))
theorem j9(hn:ab.length<=40)(h:SP Tryz.prog true ab bs jV [.slot 2] Q):AM.Sem Tryz.prog 117 ab bs Q:=
 oZ (keeps:=[(0,[1]),(1,[1,3]),(2,[1,3,4]),(3,[1,3,4,5]),(4,[1,3,4,5,13]),(6,[1,3,4,5]),(5,[1,3,4,5]),(7,[3,6]),(8,[3,6,7]),(9,[3,6,7,28]),(11,[3,6,7]),(10,[3,6,7]),(12,[2])]) (solo:=[]) Tryz.func117 rfl hn h
def jW:RC:=
 (.seq (rR [0] [oQ 2 (.mov (.c (.bool false)))]) (.seq (rR [2] [qM 3 0,oQ 4 (.bin .geq 3 (.c (.int .i64 5))),qM 5 4,oG 6 5 true (.mov 0),oG 7 5 true (.bin .leq 6 (.c (.int .i64 12))),oQ 8 (.pick 5 7 (.c (.bool false))),qM 2 8]) .ret))
theorem dE(hn:ab.length<=9)(h:SP Tryz.prog true ab bs jW [.slot 2] Q):AM.Sem Tryz.prog 167 ab bs Q:=
 oZ (keeps:=[(0,[0]),(1,[2])]) (solo:=[]) Tryz.func167 rfl hn h
def lF:RC:=
 (.seq (rR [0,1] [oQ 4 (.mov (.c (.bool false)))]) (.seq (.seq (rR [0,1,5] [oQ 5 (.mov (.c (.int .i64 0)))]) (.block 0 (.loop (.seq (.seq (rR [0,1,5,9] [qM 6 5,qM 7 0,oQ 8 (.len false 7),oQ 9 (.bin .lss 6 8)]) (.cond 9 .skip (.exit 0))) (.seq (.block 1 (.seq (rR [0,1,5,17] [qM 12 0,qM 13 5,qI 14 1 12 13,qL 15 14,qM 16 1,oQ 17 (.bin .eql 15 16)]) (.cond 17 (.seq (rR [4] [oQ 4 (.mov (.c (.bool true)))]) .ret) .skip))) (rR [0,1,5] [qM 10 5,oQ 11 (.bin .add 10 (.c (.int .i64 1))),qM 5 11])))))) (.seq (rR [4] [oQ 4 (.mov (.c (.bool false)))]) .ret)))
theorem lG(hn:ab.length<=18)(h:SP Tryz.prog true ab bs lF [.slot 4] Q):AM.Sem Tryz.prog 170 ab bs Q:=
 oZ (keeps:=[(0,[0,1]),(1,[0,1,5]),(2,[0,1,5,9]),(4,[0,1,5,17]),(5,[4]),(3,[0,1,5]),(6,[4])]) (solo:=[]) Tryz.func170 rfl hn h
def fh:RC:=
 (.seq (rR [0,3] [oQ 3 (.box 1),oQ 4 (.mov (.c (.int .i64 0)))]) (.seq (rR [0,3,5] [qA 11 6 3,oQ 12 (cF 114 [11]),qM 5 12]) (.seq (rR [0,3,5,6] [qA 13 6 3,oQ 14 (cF 115 [13]),qM 6 14]) (.seq (.seq (rR [0,3,5,6,34] [qM 15 5,oQ 16 (.len false 15),oQ 17 (.bin .eql 16 (.c (.int .i64 0))),qM 18 17,oG 19 18 false (.mov 5),oG 20 18 false (.len false 19),oG 21 18 false (.bin .gtr 20 (.c (.int .i64 4))),oQ 22 (.pick 18 (.c (.bool true)) 21),qM 23 22,oG 24 23 false (.aZ 3 3),oG 25 23 false (.load false 1 24),oG 26 23 false (.len false 25),oG 27 23 false (.bin .gtr 26 (.c (.int .i64 12))),oQ 28 (.pick 23 (.c (.bool true)) 27),qM 29 28,oG 30 29 false (.aZ 4 3),oG 31 29 false (.load false 1 30),oG 32 29 false (.len false 31),oG 33 29 false (.bin .gtr 32 (.c (.int .i64 12))),oQ 34 (.pick 29 (.c (.bool true)) 33)]) (.cond 34 (.seq (rR [4] [oQ 4 (.mov (.c (.int .i64 6)))])
 .ret) .skip)) (.seq (.seq (rR [0,3,5,6,7] [oQ 7 (.mov (.c (.int .i64 0)))]) (.block 0 (.loop (.seq (.seq (rR [0,3,5,6,7,38] [qM 35 7,qM 36 5,oQ 37 (.len false 36),oQ 38 (.bin .lss 35 37)]) (.cond 38 .skip (.exit 0))) (.seq (.block 1 (.seq (rR [0,3,5,6,7,46] [qM 41 5,qM 42 7,qI 43 2 41 42,qA 44 2 43,oQ 45 (cF 75 [44]),oQ 46 (.un .not 45)]) (.cond 46 (.seq (rR [4] [oQ 4 (.mov (.c (.int .i64 2)))]) .ret) .skip))) (rR [0,3,5,6,7] [qM 39 7,oQ 40 (.bin .add 39 (.c (.int .i64 1))),qM 7 40])))))) (.seq (.seq (rR [0,3,6,8] [oQ 8 (.mov (.c (.int .i64 0)))]) (.block 2 (.loop (.seq (.seq (rR [0,3,6,8,50] [qM 47 8,qM 48 6,oQ 49 (.len false 48),oQ 50 (.bin .lss 47 49)]) (.cond 50 .skip (.exit 2))) (.seq (.block 3 (.seq (rR [0,3,6,8,58] [qM 53 6,qM 54 8,qI 55 3 53 54,qA 56 3 55,oQ 57 (cF 116 [56]),oQ 58 (.un .not 57)]) (.cond 58 (.seq (rR [4] [oQ 4 (.mov (.c (.int .i64 2)))])
 .ret) .skip))) (rR [0,3,6,8] [qM 51 8,oQ 52 (.bin .add 51 (.c (.int .i64 1))),qM 8 52])))))) (.seq (rR [0,3,9] [qA 59 6 3,oQ 60 (cF 117 [59]),qM 9 60]) (.seq (.seq (rR [0,3,9,10] [oQ 10 (.mov (.c (.int .i64 0)))]) (.block 4 (.loop (.seq (.seq (rR [0,3,9,10,64] [qM 61 10,qM 62 9,oQ 63 (.len false 62),oQ 64 (.bin .lss 61 63)]) (.cond 64 .skip (.exit 4))) (.seq (.block 5 (.seq (rR [0,3,9,10,72] [qM 67 9,qM 68 10,qI 69 1 67 68,qL 70 69,qM 71 10,oQ 72 (.bin .neq 70 71)]) (.cond 72 (.seq (rR [4] [oQ 4 (.mov (.c (.int .i64 2)))]) .ret) .skip))) (rR [0,3,9,10] [qM 65 10,oQ 66 (.bin .add 65 (.c (.int .i64 1))),qM 10 66])))))) (.seq (.seq (rR [0,3,77] [qF 73 5 3,qL 74 73,qM 75 9,oQ 76 (.len false 75),oQ 77 (.bin .neq 74 76)]) (.cond 77 (.seq (rR [4] [oQ 4 (.mov (.c (.int .i64 2)))]) .ret) .skip)) (.seq (.seq (rR [0,3,86] [qF 78 0 3,qL 79 78,oQ 80 (.bin .neq 79 (.c (.str ⟨⟨[]⟩⟩))),qM 81 80,oG 82 81 true (.aZ 0 3),oG 83 81 true (.load false 1 82),oG 84 81 true (cF 61 [83]),oG 85 81 true (.un .not 84),oQ 86 (.pick 81 85 (.c (.bool false)))])
 (.cond 86 (.seq (rR [4] [oQ 4 (.mov (.c (.int .i64 7)))]) .ret) .skip)) (.seq (rR [4] [qM 87 0,qA 88 6 3,oQ 89 (cF 118 [87,88]),qM 4 89]) .ret)))))))))))
theorem cz(hn:ab.length<=90)(h:SP Tryz.prog true ab bs fh [.slot 4] Q):AM.Sem Tryz.prog 63 ab bs Q:=
 oZ (keeps:=[(0,[0,3]),(1,[0,3,5]),(2,[0,3,5,6]),(3,[0,3,5,6,34]),(4,[4]),(5,[0,3,5,6,7]),(6,[0,3,5,6,7,38]),(8,[0,3,5,6,7,46]),(9,[4]),(7,[0,3,5,6,7]),(10,[0,3,6,8]),(11,[0,3,6,8,50]),(13,[0,3,6,8,58]),(14,[4]),(12,[0,3,6,8]),(15,[0,3,9]),(16,[0,3,9,10]),(17,[0,3,9,10,64]),(19,[0,3,9,10,72]),(20,[4]),(18,[0,3,9,10]),(21,[0,3,77]),(22,[4]),(23,[0,3,86]),(24,[4]),(25,[4])]) (solo:=[]) Tryz.func63 rfl hn h
def gl:RC:=
 (.seq (rR [0,3] [oQ 3 (.box 1),oQ 4 (.mov (.c (.int .i64 0)))]) (.seq (rR [0,3,5] [qA 15 6 3,oQ 16 (cF 114 [15]),qM 5 16]) (.seq (.seq (rR [0,3,5,6] [oQ 6 (.mov (.c (.int .i64 0)))]) (.block 0 (.loop (.seq (.seq (rR [0,3,5,6,20] [qM 17 6,qM 18 5,oQ 19 (.len false 18),oQ 20 (.bin .lss 17 19)]) (.cond 20 .skip (.exit 0))) (.seq (.block 1 (.seq (.reg true [0,3,5,6,7] [qM 23 0,qM 24 5,qM 25 6,qI 26 2 24 25,qF 27 0 26,qL 28 27,qM 29 5,qM 30 6,qI 31 2 29 30,qF 32 1 31,qL 33 32,oQ 34 (.len false 33),oQ 35 (cF 165 [23,28,34]),oQ 7 (.take 35)]) (.seq (rR [0,3,5,6,7,37] [qM 36 7,oQ 37 (.bin .neq 36 (.c (.int .i64 0)))]) (.cond 37 (.seq (rR [4] [qM 38 7,qM 4 38]) .ret) .skip)))) (rR [0,3,5,6] [qM 21 6,oQ 22 (.bin .add 21 (.c (.int .i64 1))),qM 6 22])))))) (.seq (rR [3,8] [qM 39 0,qA 40 6 3,oQ 41 (cF 115 [40]),oQ 42 (cF 166 [39,41]),qM 8 42])
 (.seq (.seq (rR [3,8,44] [qM 43 8,oQ 44 (.bin .neq 43 (.c (.int .i64 0)))]) (.cond 44 (.seq (rR [4] [qM 45 8,qM 4 45]) .ret) .skip)) (.seq (.seq (rR [3,9] [oQ 9 (.mov (.c (.int .i64 0)))]) (.block 2 (.loop (.seq (.seq (rR [3,9,50] [qM 46 9,qF 47 3 3,qL 48 47,oQ 49 (.len false 48),oQ 50 (.bin .lss 46 49)]) (.cond 50 .skip (.exit 2))) (.seq (.block 3 (.seq (rR [3,9,69] [qF 53 3 3,qL 54 53,qM 55 9,qI 56 3 54 55,qF 57 0 56,qL 58 57,oQ 59 (cF 167 [58]),oQ 60 (.un .not 59),qM 61 60,oG 62 61 true (.aZ 3 3),oG 63 61 true (.load false 1 62),oG 64 61 true (.mov 9),oG 65 61 true (.idx 3 63 64),oG 66 61 true (.aZ 0 65),oG 67 61 true (.load false 1 66),oG 68 61 true (.bin .neq 67 (.c (.int .i64 1))),oQ 69 (.pick 61 68 (.c (.bool false)))]) (.cond 69 (.seq (rR [4] [oQ 4 (.mov (.c (.int .i64 10)))]) .ret) .skip))) (rR [3,9] [qM 51 9,oQ 52 (.bin .add 51 (.c (.int .i64 1))),qM 9 52]))))))
 (.seq (.seq (rR [3,10] [oQ 10 (.mov (.c (.int .i64 0)))]) (.block 4 (.loop (.seq (.seq (rR [3,10,74] [qM 70 10,qF 71 4 3,qL 72 71,oQ 73 (.len false 72),oQ 74 (.bin .lss 70 73)]) (.cond 74 .skip (.exit 4))) (.seq (.block 5 (.seq (rR [3,10,83] [qF 77 4 3,qL 78 77,qM 79 10,qI 80 3 78 79,qF 81 0 80,qL 82 81,oQ 83 (cF 167 [82])]) (.cond 83 (.seq (rR [4] [oQ 4 (.mov (.c (.int .i64 10)))]) .ret) .skip))) (rR [3,10] [qM 75 10,oQ 76 (.bin .add 75 (.c (.int .i64 1))),qM 10 76])))))) (.seq (rR [3,11] [qA 84 6 3,oQ 85 (cF 168 [84]),qM 11 85]) (.seq (.seq (rR [3,11,12] [oQ 12 (.mov (.c (.int .i64 0)))]) (.block 6 (.loop (.seq (.seq (rR [3,11,12,90] [qM 86 12,qF 87 3 3,qL 88 87,oQ 89 (.len false 88),oQ 90 (.bin .lss 86 89)]) (.cond 90 .skip (.exit 6))) (.seq (.block 7 (.seq (rR [3,11,12,13] [qF 93 3 3,qL 94 93,qM 95 12,qI 96 3 94 95,qA 97 3 96,oQ 98 (cF 169 [97]),qM 13 98])
 (.seq (rR [3,11,12,13,14] [oQ 14 (.mov (.c (.int .i64 0)))]) (.block 8 (.loop (.seq (.seq (rR [3,11,12,13,14,102] [qM 99 14,qM 100 13,oQ 101 (.len false 100),oQ 102 (.bin .lss 99 101)]) (.cond 102 .skip (.exit 8))) (.seq (.block 9 (.seq (rR [3,11,12,13,14,111] [qM 105 11,qM 106 13,qM 107 14,qI 108 1 106 107,qL 109 108,oQ 110 (cF 170 [105,109]),oQ 111 (.un .not 110)]) (.cond 111 (.seq (rR [4] [oQ 4 (.mov (.c (.int .i64 17)))]) .ret) .skip))) (rR [3,11,12,13,14] [qM 103 14,oQ 104 (.bin .add 103 (.c (.int .i64 1))),qM 14 104])))))))) (rR [3,11,12] [qM 91 12,oQ 92 (.bin .add 91 (.c (.int .i64 1))),qM 12 92])))))) (.seq (rR [4] [oQ 4 (.mov (.c (.int .i64 0)))]) .ret))))))))))
theorem gu(hn:ab.length<=112)(h:SP Tryz.prog true ab bs gl [.slot 4] Q):AM.Sem Tryz.prog 118 ab bs Q:=
 oZ (keeps:=[(0,[0,3]),(1,[0,3,5]),(2,[0,3,5,6]),(3,[0,3,5,6,20]),(5,[0,3,5,6,7]),(6,[0,3,5,6,7,37]),(7,[4]),(4,[0,3,5,6]),(8,[3,8]),(9,[3,8,44]),(10,[4]),(11,[3,9]),(12,[3,9,50]),(14,[3,9,69]),(15,[4]),(13,[3,9]),(16,[3,10]),(17,[3,10,74]),(19,[3,10,83]),(20,[4]),(18,[3,10]),(21,[3,11]),(22,[3,11,12]),(23,[3,11,12,90]),(25,[3,11,12,13]),(26,[3,11,12,13,14]),(27,[3,11,12,13,14,102]),(29,[3,11,12,13,14,111]),(30,[4]),(28,[3,11,12,13,14]),(24,[3,11,12]),(31,[4])]) (solo:=[]) Tryz.func118 rfl hn h
def jd:RC:=
 (.seq (rR [0,1] [oQ 4 (.mov (.c (.int .i64 0)))]) (.seq (.seq (rR [0,1,5] [oQ 5 (.mov (.c (.int .i64 0)))]) (.block 0 (.loop (.seq (.seq (rR [0,1,5,10] [qM 7 5,qM 8 1,oQ 9 (.len false 8),oQ 10 (.bin .lss 7 9)]) (.cond 10 .skip (.exit 0))) (.seq (.block 1 (.seq (.seq (rR [0,1,5,18] [qM 13 1,qM 14 5,qI 15 3 13 14,qF 16 0 15,qL 17 16,oQ 18 (.bin .neq 17 (.c (.int .i64 0)))]) (.cond 18 (.exit 1) .skip)) (.seq (.reg true [0,1,5,6] [qM 19 0,qM 20 1,qM 21 5,qI 22 3 20 21,qF 23 1 22,qL 24 23,qM 25 1,qM 26 5,qI 27 3 25 26,qF 28 2 27,qL 29 28,oQ 30 (.len false 29),oQ 31 (cF 165 [19,24,30]),oQ 6 (.take 31)]) (.seq (rR [0,1,5,6,33] [qM 32 6,oQ 33 (.bin .neq 32 (.c (.int .i64 0)))]) (.cond 33 (.seq (rR [4] [qM 34 6,qM 4 34]) .ret) .skip))))) (rR [0,1,5] [qM 11 5,oQ 12 (.bin .add 11 (.c (.int .i64 1))),qM 5 12])))))) (.seq (rR [4] [oQ 4 (.mov (.c (.int .i64 0)))])
 .ret)))
theorem jw(hn:ab.length<=35)(h:SP Tryz.prog true ab bs jd [.slot 4] Q):AM.Sem Tryz.prog 166 ab bs Q:=
 oZ (keeps:=[(0,[0,1]),(1,[0,1,5]),(2,[0,1,5,10]),(4,[0,1,5,18]),(5,[0,1,5,6]),(6,[0,1,5,6,33]),(7,[4]),(3,[0,1,5]),(8,[4])]) (solo:=[]) Tryz.func166 rfl hn h
def eB:RC:=
 (.seq (rR [1] [oQ 1 (.box 0),oQ 2 (.mov (.c (.bool false)))]) (.seq (.seq (rR [1,15] [oQ 14 (cF 18 []),oQ 15 (.un .not 14)]) (.cond 15 (.seq (rR [2] [oQ 2 (.mov (.c (.bool false)))]) .ret) .skip)) (.seq (rR [1,4] [qA 17 2 1,oQ 18 (cF 19 [17]),qM 16 18,oQ 19 (.ext 0 16),oQ 20 (.ext 1 16),qM 3 19,qM 4 20]) (.seq (.seq (rR [1,26] [qA 21 2 1,oQ 22 (cF 20 [21,(.c (.sl .full []))]),qM 23 22,oG 24 23 false (.mov 4),oG 25 23 false (.bin .neq 24 (.c (.int .i64 0))),oQ 26 (.pick 23 (.c (.bool true)) 25)]) (.cond 26 (.seq (rR [2] [oQ 2 (.mov (.c (.bool true)))]) .ret) .skip)) (.seq (rR [1,5] [qA 27 2 1,oQ 28 (cF 21 [27]),qM 5 28]) (.seq (rR [1,5,6] [qA 29 2 1,qM 30 5,oQ 31 (cF 22 [29,30]),qM 6 31]) (.seq (rR [1,5,6,8] [qM 33 6,oQ 34 (cF 11 [(.c (.sl .full [])),33]),qM 32 34,oQ 35 (.ext 0 32),oQ 36 (.ext 1 32),qM 7 35,qM 8 36]) (.seq (.seq (rR [1,5,6,38] [
 qM 37 8,oQ 38 (.bin .neq 37 (.c (.int .i64 0)))]) (.cond 38 (.seq (rR [2] [oQ 2 (.mov (.c (.bool false)))]) .ret) .skip)) (.seq (.seq (rR [1,5,6,9] [oQ 9 (.mov (.c (.int .i64 0)))]) (.block 0 (.loop (.seq (.seq (rR [1,5,6,9,42] [qM 39 9,qM 40 5,oQ 41 (.len false 40),oQ 42 (.bin .lss 39 41)]) (.cond 42 .skip (.exit 0))) (.seq (.block 1 (.seq (rR [1,5,6,9,10] [qM 45 5,qM 46 9,qI 47 6 45 46,qA 48 6 47,oQ 10 (.box (.c (.agg [(.int .i64 0),(.int .i64 0),(.bool false),(.sl .full []),(.sl .full []),(.sl .full [])]))),oN (.store 6 10 48)]) (.seq (.seq (rR [1,5,6,9,10,70] [qF 49 0 10,qF 50 0 49,qL 51 50,oQ 52 (.bin .lss 51 (.c (.int .i64 0))),qM 53 52,oG 54 53 false (.aZ 0 10),oG 55 53 false (.aZ 0 54),oG 56 53 false (.load false 1 55),oG 57 53 false (.aZ 1 1),oG 58 53 false (.load false 1 57),oG 59 53 false (.len false 58),oG 60 53 false (.bin .geq 56 59),oQ 61 (.pick 53 (.c (.bool true)) 60),qM 62 61,oG 63 62 false (.aZ 4 10),oG 64 62 false (.load false 1 63),oG 65 62 false (.len false 64),oG 66 62 false (.aZ 3 10),oG 67 62 false (.load false 1 66),oG 68 62 false (.len false 67),oG 69 62 false (.bin .neq 65 68),oQ 70 (.pick 62 (.c (.bool true)) 69)])
 (.cond 70 (.seq (rR [2] [oQ 2 (.mov (.c (.bool false)))]) .ret) .skip)) (.seq (rR [1,5,6,9,10,11] [qF 71 0 10,qF 72 1 71,qL 73 72,oQ 74 (.aQ 1 [73]),qM 11 74]) (.seq (rR [1,5,6,9,10,11,12] [oQ 12 (.mov (.c (.int .i64 0)))]) (.block 2 (.loop (.seq (.seq (rR [1,5,6,9,10,11,12,79] [qM 75 12,qF 76 3 10,qL 77 76,oQ 78 (.len false 77),oQ 79 (.bin .lss 75 78)]) (.cond 79 .skip (.exit 2))) (.seq (.block 3 (.seq (rR [1,5,6,9,10,11,12,13] [qA 82 2 1,qM 83 6,qA 84 6 10,qM 85 12,oQ 86 (cF 23 [82,83,84,85]),qM 13 86]) (.seq (.seq (.reg true [1,5,6,9,10,11,12,145] [qF 87 4 10,qL 88 87,qM 89 12,qI 90 1 88 89,qL 91 90,qF 92 1 1,qL 93 92,qF 94 0 10,qF 95 0 94,qL 96 95,qI 97 6 93 96,qA 98 6 97,qM 99 11,qF 100 3 10,qL 101 100,qM 102 12,qI 103 1 101 102,qL 104 103,oQ 105 (cF 24 [98,99,104]),oQ 106 (cF 17 [91,105]),oQ 107 (.un .not 106),qM 108 107,oG 109 108 false (.mov 13),oG 110 108 false (.bin .lss 109 (.c (.int .i64 0))),oQ 111 (.pick 108 (.c (.bool true)) 110),qM 112 111,oG 113 112 false (.mov 13),oG 114 112 false (.mov 6),oG 115 112 false (.len false 114),oG 116 112 false (.bin .geq 113 115),oQ 117 (.pick 112 (.c (.bool true)) 116),qM 118 117,oG 119 118 false (.mov 6),oG 120 118 false (.mov 13),oG 121 118 false (.idx 3 119 120),oG 122 118 false (.aZ 2 121),oG 123 118 false (.load false 1 122),oG 124 118 false (.aZ 4 10),oG 125 118 false (.load false 1 124),oG 126 118 false (.mov 12),oG 127 118 false (.idx 1 125 126),oG 128 118 false (.load false 1 127),oG 129 118 false (cF 17 [123,128]),oG 130 118 false (.un .not 129),oQ 131 (.pick 118 (.c (.bool true)) 130),qM 132 131,oG 133 132 false (.load true 2 1),oG 134 132 false (.load true 6 10),oG 135 132 false (.mov 12),oG 136 132 false (cF 25 [133,134,135]),oG 137 132 false (.len false 136),oG 138 132 false (.aZ 4 10),oG 139 132 false (.load false 1 138),oG 140 132 false (.mov 12),oG 141 132 false (.idx 1 139 140),oG 142 132 false (.load false 1 141),oG 143 132 false (.len false 142),oG 144 132 false (.bin .neq 137 143),oQ 145 (.pick 132 (.c (.bool true)) 144)])
 (.cond 145 (.seq (rR [2] [oQ 2 (.mov (.c (.bool false)))]) .ret) .skip)) (rR [1,5,6,9,10,11,12] [qM 146 11,qF 147 3 10,qL 148 147,qM 149 12,qI 150 1 148 149,qL 151 150,oQ 152 (.aQ 1 [151]),oQ 153 (.append 1 146 152),qM 11 153])))) (rR [1,5,6,9,10,11,12] [qM 80 12,oQ 81 (.bin .add 80 (.c (.int .i64 1))),qM 12 81])))))))))) (rR [1,5,6,9] [qM 43 9,oQ 44 (.bin .add 43 (.c (.int .i64 1))),qM 9 44])))))) (.seq (rR [2] [oQ 2 (.mov (.c (.bool true)))]) .ret))))))))))
theorem bE(hn:ab.length<=154)(h:SP Tryz.prog true ab bs eB [.slot 2] Q):AM.Sem Tryz.prog 4 ab bs Q:=
 oZ (keeps:=[(0,[1]),(1,[1,15]),(2,[2]),(3,[1,4]),(4,[1,26]),(5,[2]),(6,[1,5]),(7,[1,5,6]),(8,[1,5,6,8]),(9,[1,5,6,38]),(10,[2]),(11,[1,5,6,9]),(12,[1,5,6,9,42]),(14,[1,5,6,9,10]),(15,[1,5,6,9,10,70]),(16,[2]),(17,[1,5,6,9,10,11]),(18,[1,5,6,9,10,11,12]),(19,[1,5,6,9,10,11,12,79]),(21,[1,5,6,9,10,11,12,13]),(22,[1,5,6,9,10,11,12,145]),(23,[2]),(24,[1,5,6,9,10,11,12]),(20,[1,5,6,9,10,11,12]),(13,[1,5,6,9]),(25,[2])]) (solo:=[]) Tryz.func4 rfl hn h
def rY:RC:=
 (.seq (rR [0] [oQ 2 (.mov (.c (.bool false)))]) (.seq (.seq (rR [0,8] [qM 6 0,oQ 7 (.len false 6),oQ 8 (.bin .gtr 7 (.c (.int .i64 500)))]) (.cond 8 (.seq (rR [2] [oQ 2 (.mov (.c (.bool false)))]) .ret) .skip)) (.seq (rR [0,3] [oQ 3 (.mov (.c (.int .i64 0)))]) (.seq (.seq (rR [3,9,10,11] [qM 9 0,oQ 10 (.len false 9),oQ 11 (.mov (.c (.int .i64 0)))]) (.block 0 (.loop (.seq (rR [3,9,10,11,12] [oQ 12 (.bin .lss 11 10)]) (.seq (.cond 12 .skip (.exit 0)) (.seq (.block 1 (.seq (rR [3,5,9,10,11] [qI 13 3 9 11,qA 14 3 13,oQ 5 (.box (.c (.agg [(.int .i64 0),(.str ⟨⟨[]⟩⟩),(.sl .full [])]))),oN (.store 3 5 14)]) (.seq (.seq (rR [5,9,10,11,24] [qF 15 0 5,qL 16 15,qM 17 3,oQ 18 (.bin .leq 16 17),qM 19 18,oG 20 19 false (.aZ 1 5),oG 21 19 false (.load true 2 20),oG 22 19 false (cF 49 [21]),oG 23 19 false (.un .not 22),oQ 24 (.pick 19 (.c (.bool true)) 23)])
 (.cond 24 (.seq (rR [2] [oQ 2 (.mov (.c (.bool false)))]) .ret) .skip)) (rR [3,9,10,11] [qF 25 0 5,qL 26 25,qM 3 26])))) (rR [3,9,10,11] [oQ 27 (.bin .add 11 (.c (.int .i64 1))),qM 11 27]))))))) (.seq (rR [2] [oQ 2 (.mov (.c (.bool true)))]) .ret)))))
theorem sn(hn:ab.length<=28)(h:SP Tryz.prog true ab bs rY [.slot 2] Q):AM.Sem Tryz.prog 40 ab bs Q:=
 oZ (keeps:=[(0,[0]),(1,[0,8]),(2,[2]),(3,[0,3]),(4,[3,9,10,11]),(5,[3,9,10,11,12]),(6,[3,5,9,10,11]),(7,[5,9,10,11,24]),(8,[2]),(9,[3,9,10,11]),(10,[3,9,10,11]),(11,[2])]) (solo:=[]) Tryz.func40 rfl hn h
end Go.CK
namespace Go.CK
open Go.AM Go.Proofs
def yo(n:ByteArray)(a:Int)(d:Dc):Bool:=decide (d.name=n)&&decide (d.arity=a)
def tp(ds:List Dc)(n:ByteArray)(a:Int):Bool:=ds.any (yo n a)
theorem qu{ds:List Dc}{n:ByteArray}{a:Int}(hl:ds.length<=10000000):Fun Tryz.prog 62 [slA Dc.av ds,.str n,.int .i64 a] (.bool (tp ds n a)):=by
 refine Fun.of (fL (by simp) ?_) rfl rfl
 conv=>whnf
 skip;refine az.count (fb:=true) (ds.length) (λst_ j=>st_.bD [(7,.int .i64 j)]) (λj=>∀i x,i<j->ds[i]? =some x->yo n a x=false) ?_ ?_ (λj hj hij=>?_) (λhij=>?_)
 .exact bZ
 .exact bq
 .obtain ⟨y,hy⟩:∃y,ds[j]? =some y:=⟨_,zA hj⟩
  by_cases h1:y.name=n
  .by_cases h2:y.arity=a
   .have h3:yo n a y=true:=by simp[yo,h1,h2]
    conv=>whnf
    repeat' (first|refine gC (gD (cI ?_))|refine gL (.map ?_)|refine gI (gM (iE ?_))|refine ak.nrm ?_)<;>conv=>whnf
    rw[show tp ds n a=true from List.any_eq_true.2 ⟨y,zE hy,h3⟩]
   .have h3:yo n a y=false:=by simp[yo,h2]
    conv=>whnf
    repeat' (first|(refine gC ?_;(refine gD ?_;first|refine cI ?_|refine cJ ?_))|refine gW (wI ?_)|refine gL (.map ?_)|refine gI (gM (iE ?_)))<;>conv=>whnf
    refine⟨bJ hij hy h3,?_⟩;exact bq
  .have h3:yo n a y=false:=by simp[yo,h1]
   conv=>whnf
   repeat' (first|(refine gC ?_;first|refine cN ?_|(refine gD ?_;first|refine cI ?_|refine cJ ?_))|refine gW (wI ?_)|refine gL (.map ?_)|refine gI (gM (iE ?_)))<;>conv=>whnf
   refine⟨bJ hij hy h3,?_⟩;exact bq
 .conv=>whnf
  repeat' (first|refine gC (gD (cJ ?_))|refine gL (.map ?_)|refine ak.nrm ?_)<;>conv=>whnf
  rw[show tp ds n a=false from xj hij]
def qv(ds:List Dc)(n:ByteArray)(a:Int):Int:=if tp ds n a then 0 else if ds.any λd=>decide (d.name=n) then 9 else 7
theorem tn{ds:List Dc}{n:ByteArray}{a:Int}(hl:ds.length<=10000000):Fun Tryz.prog 165 [slA Dc.av ds,.str n,.int .i64 a] (.int .i64 (qv ds n a)):=by
 have hd:=qu (n:=n) (a:=a) hl;refine Fun.of (gx (by simp) ?_) rfl rfl
 conv=>whnf
 skip;refine az.count (fb:=true) (ds.length) (λst_ j=>st_.bD [(7,.int .i64 (if (ds.take j).any λd=>decide (d.name=n) then 9 else 7)),(8,.int .i64 j)]) (λj=>True) ?_ ?_ (λj hj hij=>?_) (λhij=>?_)
 .trivial
 .refine aq.at_ ?_ rfl
  conv=>whnf
  refine And.intro ?_ ?_<;>conv=>whnf
  all_goals repeat' (first|(refine gV ?_;first|refine vE ?_|refine vI ?_|(refine WkN.norm ?_ ?_;(focus (simp[AV.norm,AV.aj,];done))))|exact True.intro)<;>conv=>whnf
 .obtain ⟨y,hy⟩:∃y,ds[j]? =some y:=⟨_,zA hj⟩
  have hs:ds.take (j+1)=ds.take j++[y]:=by
   rw[List.take_succ_eq_append_getElem hj,(zB.1 hy).2]
  by_cases h1:y.name=n
  .conv=>whnf
   repeat' (first|refine gC (gD (cI ?_))|refine gW (wI ?_)|refine gL (.map ?_)|refine gI (gM (iE ?_)))<;>conv=>whnf
   refine⟨trivial,?_⟩;refine aq.at_ ?_ rfl
   conv=>whnf
   refine And.intro ?_ ?_<;>conv=>whnf
   all_goals repeat' (first|(refine gV ?_;first|refine vE ?_|refine vI ?_|(refine WkN.norm ?_ ?_;(focus (simp[AV.norm,AV.aj,hs,h1];done))))|exact True.intro)<;>conv=>whnf
  .conv=>whnf
   repeat' (first|(refine gC ?_;(refine gD ?_;first|refine cI ?_|refine cJ ?_))|refine gW (wI ?_)|refine gL (.map ?_)|refine gI (gM (iE ?_)))<;>conv=>whnf
   refine⟨trivial,?_⟩;refine aq.at_ ?_ rfl
   conv=>whnf
   refine And.intro ?_ ?_<;>conv=>whnf
   all_goals repeat' (first|(refine gV ?_;first|refine vE ?_|refine vI ?_|(refine WkN.norm ?_ ?_;(focus (simp[AV.norm,AV.aj,hs,h1];done))))|exact True.intro)<;>conv=>whnf
 .rw [zz];unfold qv
  cases hb:tp ds n a with
  |true=>
   rw[hb] at hd
   conv=>whnf
   repeat' (first|refine gF (ag.fn (hd) ?_)|(refine gC ?_;first|refine cY ?_|refine gD (cJ ?_))|refine gL (.map ?_)|refine ak.nrm ?_)<;>conv=>whnf
   rfl
  |false=>
   rw[hb] at hd
   conv=>whnf
   repeat' (first|refine gF (ag.fn (hd) ?_)|(refine gC ?_;first|refine cN ?_|refine gD (cJ ?_))|refine gL (.map ?_)|refine ak.nrm ?_)<;>conv=>whnf
   rfl
theorem hG{x:Rl}(h1:x.aE.length<=10000000)(h2:x.remove.length<=10000000):Fun Tryz.prog 114 [x.av] (slA At.av x.ah):=by
 refine Fun.of (ju (by simp) ?_) rfl rfl
 conv=>whnf
 repeat' (first|refine gN (nS ?_)|refine ak.nrm ?_)<;>conv=>whnf
 all_goals (simp[Rl.ah,slA])
def Rl.goals(x:Rl):List Gl:=x.guard++x.body
theorem hP{x:Rl}(h1:x.guard.length<=10000000)(h2:x.body.length<=10000000):Fun Tryz.prog 115 [x.av] (slA Gl.av x.goals):=by
 refine Fun.of (jv (by simp) ?_) rfl rfl
 conv=>whnf
 repeat' (first|refine gN (nS ?_)|refine ak.nrm ?_)<;>conv=>whnf
 all_goals (simp[Rl.goals,slA])
theorem uE(op:Int):Fun Tryz.prog 167 [.int .i64 op] (.bool (decide (5<=op)&&decide (op<=12))):=by
 by_cases h:5<=op
 .rw [decide_eq_true h];refine Fun.of (dE (by simp) ?_) rfl rfl
  conv=>whnf
  repeat' (first|refine gC (gD (cI ?_))|refine ak.nrm ?_)<;>conv=>whnf
  all_goals rfl
 .rw [decide_eq_false h];refine Fun.of (dE (by simp) ?_) rfl rfl
  conv=>whnf
  repeat' (first|refine gC (gD (cJ ?_))|refine ak.nrm ?_)<;>conv=>whnf
  all_goals rfl
theorem Gk{l:List Int}{n:Int}(hl:l.length<=100000000):Fun Tryz.prog 170 [slA aK l,.int .i64 n] (.bool (decide (n∈l))):=by
 rw[<-xk];refine Fun.of (lG (by simp) ?_) rfl rfl
 conv=>whnf
 skip;refine az.count (fb:=true) (l.length) (λst_ j=>st_.bD [(5,.int .i64 j)]) (λj=>∀i x,i<j->l[i]? =some x->isI n x=false) ?_ ?_ (λj hj hij=>?_) (λhij=>?_)
 .exact bZ
 .exact bq
 .obtain ⟨y,hy⟩:∃y,l[j]? =some y:=⟨_,zA hj⟩
  conv=>whnf
  repeat' (first|(refine gC ?_;first|refine gD (cI ?_)|refine ae.dec (λhc=>?_) (λhc=>?_))|refine gW (wI ?_)|refine gL (.map ?_)|refine gI (gM (iE ?_))|refine ak.nrm ?_)<;>conv=>whnf
  .have h1:isI n y=true:=by simp only[isI];exact decide_eq_true (Eq.symm (by assumption))
   rw[show l.any (isI n)=true from List.any_eq_true.2 ⟨y,zE hy,h1⟩]
  .refine ⟨bJ hij hy (by simp only[isI];exact decide_eq_false (Ne.symm (by assumption))),?_⟩
   exact bq
 .conv=>whnf
  repeat' (first|refine gC (gD (cJ ?_))|refine gL (.map ?_)|refine ak.nrm ?_)<;>conv=>whnf
  rw[xj hij]
end Go.CK
namespace Go.CK
open Go.AM Go.Proofs
mutual
theorem HU:∀t:Tm,t.vs.length<=t.sz
 |.mk k n s l=>by
  simp only[Tm.vs,Tm.sz];have:=vR l
  by_cases h1:k=1
  .rw [if_pos h1];simp
  .rw [if_neg h1]
   by_cases h2:k=2
   .rw [if_pos h2,if_pos h2];omega
   .rw [if_neg h2];simp
theorem vR:∀l:List Tm,(Tm.vss l).length<=Tm.szs l
 |[]=>zG _
 |t::r=>by
  have:=HU t;have:=vR r;simp only[Tm.vss,Tm.szs,zC];omega
end
theorem B9{l:List Tm}(h:vLB 200 20 l=true):(Tm.vss l).length<=200:=by
 simp only[vLB,zD,decide_eq_true_eq] at h;have:=vR l;omega
theorem At.a7{x:At}(h:x.right=true):ek x.name=true/\x.args.length<=6/\(Tm.vss x.args).length<=200:=by
 simp only[At.right,zD,decide_eq_true_eq] at h;exact⟨h.1,h.2.1,B9 h.2.2⟩
theorem Gl.a7{x:Gl}(h:x.right=true):x.args.length<=6/\(Tm.vss x.args).length<=200:=by
 unfold Gl.right at h;split at h
 .have:=At.a7 h;exact this.2
 .simp only[zD,decide_eq_true_eq] at h;obtain⟨_,_,h3,h4⟩:=h;refine⟨?_,B9 h4⟩;unfold arG at h3;split at h3
  .omega
  .split at h3<;>omega
def cd:List At->List Tm
 |[]=>[]
 |h::l=>h.args++cd l
def eu:List Gl->List Tm
 |[]=>[]
 |g::l=>g.args++eu l
theorem iw(a b:List Tm):Tm.vss (a++b)=Tm.vss a++Tm.vss b:=by
 induction a with
 |nil=>rfl
 |cons x a ih=>rw[ze,Tm.vss,Tm.vss,ih,zg]
theorem vK(a b:List At):cd (a++b)=cd a++cd b:=by
 induction a with
 |nil=>rfl
 |cons x a ih=>rw[ze,cd,cd,ih,zg]
theorem DL(a b:List Gl):eu (a++b)=eu a++eu b:=by
 induction a with
 |nil=>rfl
 |cons x a ih=>rw[ze,eu,eu,ih,zg]
theorem gg{l:List At}(h:∀x∈l,x.right=true):(cd l).length<=6*l.length/\(Tm.vss (cd l)).length<=200*l.length:=by
 induction l with
 |nil=>exact⟨zG _,zG _⟩
 |cons x l ih=>
  obtain⟨h1,h2⟩:=ih λy hy=>h y (zR _ hy);obtain⟨_,h3,h4⟩:=At.a7 (h x (zV ..));simp only[cd,iw,zC,zX];omega
theorem p5{l:List Gl}(h:∀x∈l,x.right=true):(eu l).length<=6*l.length/\(Tm.vss (eu l)).length<=200*l.length:=by
 induction l with
 |nil=>exact⟨zG _,zG _⟩
 |cons x l ih=>
  obtain⟨h1,h2⟩:=ih λy hy=>h y (zR _ hy);obtain⟨h3,h4⟩:=Gl.a7 (h x (zV ..));simp only[eu,iw,zC,zX];omega
def Rl.hvs(r:Rl):List Int:=aV (Tm.vss (cd r.ah))
def Rl.avs(r:Rl):List Int:=aV (Tm.vss (cd r.ah++eu r.goals))
structure Rl.few(r:Rl):Prop where
 aE:r.aE.length<=4
 remove:r.remove.length<=4
 guard:r.guard.length<=12
 body:r.body.length<=12
 ah:∀h∈r.ah,h.right=true
 goals:∀g∈r.goals,g.right=true
theorem Rl.pL(r:Rl):r.goals.length=r.guard.length+r.body.length:=by simp[Rl.goals]
theorem yv{r:Rl}(hr:r.few):Fun Tryz.prog 168 [r.av] (slA aK r.hvs):=by
 have h1:=hr.aE;have h2:=hr.remove;have hl:=gg hr.ah;have hhl:=r.bK;have hok:=oY (l:=cd r.ah) (by omega)
 have hle:∀j,(cd (r.ah.take j)).length<=100:=λj=>by
  have h3:=(gg (l:=r.ah.take j) λx hx=>hr.ah x (List.mem_of_mem_take hx)).1;have h4:=List.length_take_le j r.ah;have h5:(r.ah.take j).length<=r.ah.length:=List.length_take_le' j r.ah;omega
 refine Fun.of (fK (by simp) ?_) rfl rfl
 conv=>whnf
 repeat' (refine gF ?_;refine ag.fn (hG (x:=r) (by omega) (by omega)) ?_)<;>conv=>whnf
 refine az.count (fb:=true) (r.ah.length) (λst_ j=>st_.bD [(3,.sl (.own 4) ((cd (r.ah.take j)).map Tm.av)),(5,.int .i64 j)]) (λj=>True) ?_ ?_ (λj hj hij=>?_) (λhij=>?_)
 .trivial
 .refine aq.at_ ?_ rfl
  conv=>whnf
  refine And.intro ?_ ?_<;>conv=>whnf
  all_goals repeat' (first|(refine gV ?_;first|refine vE ?_|refine vI ?_|((refine gK ?_;refine vD ?_ ?_);(focus (simp[AV.norm,AV.aj,cd];done))))|refine gX (xB ?_)|exact True.intro)<;>conv=>whnf
 .obtain ⟨y,hy⟩:∃y,r.ah[j]? =some y:=⟨_,zA hj⟩
  have hs:cd (r.ah.take (j+1))=cd (r.ah.take j)++y.args:=by
   rw[List.take_succ_eq_append_getElem hj,(zB.1 hy).2,vK];simp[cd]
  have h6:=(At.a7 (hr.ah y (zE hy))).2.1;have h7:=hle j
  conv=>whnf
  repeat' (first|refine gC (gD (cI ?_))|refine gW (wI ?_)|refine gL (.map ?_)|refine gN (nS ?_)|refine gI (gM (iE ?_)))<;>conv=>whnf
  refine⟨trivial,?_⟩;refine aq.atC 1 ?_ rfl rfl rfl rfl (by first|rfl|(repeat' (first|rfl|refine ao (row_allI _ _ _) ?_|refine ao (aw _ _ _) ?_|refine bLtMp ?_|refine aB ?_|refine bLtCells rfl ?_)))
  conv=>whnf
  refine And.intro ?_ ?_<;>conv=>whnf
  all_goals repeat' (first|(refine gV ?_;first|refine vE ?_|refine vI ?_|(refine WkN.sl ?_ ?_;(focus (simp[AV.norm,AV.aj,hs];done))))|refine gX (xB ?_)|exact True.intro)<;>conv=>whnf
 .rw [zz]
  conv=>whnf
  repeat' (first|refine gF (ag.fn (hok) ?_)|refine gC (gD (cJ ?_))|refine gL (.map ?_)|refine ak.nrm ?_)<;>conv=>whnf
  rfl
set_option maxHeartbeats 1000000 in
theorem CT{r:Rl}(hr:r.few):Fun Tryz.prog 117 [r.av] (slA aK r.avs):=by
 have h1:=hr.aE;have h2:=hr.remove;have h3:=hr.guard;have h4:=hr.body;have hl:=gg hr.ah;have hg:=p5 hr.goals;have hhl:=r.bK;have hgl:=r.pL;have hok:=oY (l:=cd r.ah++eu r.goals) (by rw[iw,zC];omega)
 have hle:∀j,(cd (r.ah.take j)).length<=100:=λj=>by
  have h3:=(gg (l:=r.ah.take j) λx hx=>hr.ah x (List.mem_of_mem_take hx)).1;have h5:(r.ah.take j).length<=r.ah.length:=List.length_take_le' j r.ah;omega
 have hlg:∀j,(eu (r.goals.take j)).length<=400:=λj=>by
  have h3:=(p5 (l:=r.goals.take j) λx hx=>hr.goals x (List.mem_of_mem_take hx)).1;have h5:(r.goals.take j).length<=r.goals.length:=List.length_take_le' j r.goals;omega
 refine Fun.of (j9 (by simp) ?_) rfl rfl
 conv=>whnf
 repeat' (refine gF ?_;refine ag.fn (hG (x:=r) (by omega) (by omega)) ?_)<;>conv=>whnf
 refine az.count (fb:=true) (r.ah.length) (λst_ j=>st_.bD [(3,.sl (.own 4) ((cd (r.ah.take j)).map Tm.av)),(5,.int .i64 j)]) (λj=>True) ?_ ?_ (λj hj hij=>?_) (λhij=>?_)
 .trivial
 .refine aq.at_ ?_ rfl
  conv=>whnf
  refine And.intro ?_ ?_<;>conv=>whnf
  all_goals repeat' (first|(refine gV ?_;first|refine vE ?_|refine vI ?_|((refine gK ?_;refine vD ?_ ?_);(focus (simp[AV.norm,AV.aj,cd];done))))|refine gX (xB ?_)|exact True.intro)<;>conv=>whnf
 .obtain ⟨y,hy⟩:∃y,r.ah[j]? =some y:=⟨_,zA hj⟩
  have hs:cd (r.ah.take (j+1))=cd (r.ah.take j)++y.args:=by
   rw[List.take_succ_eq_append_getElem hj,(zB.1 hy).2,vK];simp[cd]
  have h6:=(At.a7 (hr.ah y (zE hy))).2.1;have h7:=hle j
  conv=>whnf
  repeat' (first|refine gC (gD (cI ?_))|refine gW (wI ?_)|refine gL (.map ?_)|refine gN (nS ?_)|refine gI (gM (iE ?_)))<;>conv=>whnf
  refine⟨trivial,?_⟩;refine aq.atC 1 ?_ rfl rfl rfl rfl (by first|rfl|(repeat' (first|rfl|refine ao (row_allI _ _ _) ?_|refine ao (aw _ _ _) ?_|refine bLtMp ?_|refine aB ?_|refine bLtCells rfl ?_)))
  conv=>whnf
  refine And.intro ?_ ?_<;>conv=>whnf
  all_goals repeat' (first|(refine gV ?_;first|refine vE ?_|refine vI ?_|(refine WkN.sl ?_ ?_;(focus (simp[AV.norm,AV.aj,hs];done))))|refine gX (xB ?_)|exact True.intro)<;>conv=>whnf
 .rw [zz]
  conv=>whnf
  repeat' (first|(refine gF ?_;refine ag.fn (hP (x:=r) (by omega) (by omega)) ?_)|refine gC (gD (cJ ?_))|refine gL (.map ?_))<;>conv=>whnf
  refine az.count (fb:=true) (r.goals.length) (λst_ j=>st_.bD [(3,.sl (.own 4) ((cd r.ah++eu (r.goals.take j)).map Tm.av)),(7,.int .i64 j)]) (λj=>True) ?_ ?_ (λj hj hij=>?_) (λhij=>?_)
  .trivial
  .refine aq.at_ ?_ rfl
   conv=>whnf
   refine And.intro ?_ ?_<;>conv=>whnf
   all_goals repeat' (first|(refine gV ?_;first|refine vE ?_|refine vI ?_|(refine WkN.sl ?_ ?_;(focus (simp[AV.norm,AV.aj,eu];done))))|refine gX (xB ?_)|exact True.intro)<;>conv=>whnf
  .obtain ⟨y,hy⟩:∃y,r.goals[j]? =some y:=⟨_,zA hj⟩
   have hs:eu (r.goals.take (j+1))=eu (r.goals.take j)++y.args:=by
    rw[List.take_succ_eq_append_getElem hj,(zB.1 hy).2,DL];simp[eu]
   have h6:=(Gl.a7 (hr.goals y (zE hy))).1;have h7:=hlg j;have h8:(cd r.ah++eu (r.goals.take j)).length<=1000:=by rw[zC];omega
   conv=>whnf
   repeat' (first|refine gC (gD (cI ?_))|refine gW (wI ?_)|refine gL (.map ?_)|refine gN (nS ?_)|refine gI (gM (iE ?_)))<;>conv=>whnf
   refine⟨trivial,?_⟩;refine aq.atC 1 ?_ rfl rfl rfl rfl (by first|rfl|(repeat' (first|rfl|refine ao (row_allI _ _ _) ?_|refine ao (aw _ _ _) ?_|refine bLtMp ?_|refine aB ?_|refine bLtCells rfl ?_)))
   conv=>whnf
   refine And.intro ?_ ?_<;>conv=>whnf
   all_goals repeat' (first|(refine gV ?_;first|refine vE ?_|refine vI ?_|(refine WkN.sl ?_ ?_;(focus (simp[AV.norm,AV.aj,hs];done))))|refine gX (xB ?_)|exact True.intro)<;>conv=>whnf
  .rw [zz]
   conv=>whnf
   repeat' (first|refine gF (ag.fn (hok) ?_)|refine gC (gD (cJ ?_))|refine gL (.map ?_)|refine ak.nrm ?_)<;>conv=>whnf
   rfl
def fnz:List Int->Int
 |[]=>0
 |x::l=>if x=0 then fnz l else x
theorem E6{l:List Int}(h:∀i x,i<l.length->l[i]? =some x->x=0):fnz l=0:=by
 induction l with
 |nil=>rfl
 |cons y l ih=>
  rw[fnz,if_pos (h 0 y (by simp) rfl)]
  exact ih λi x hi hx=>h (i+1) x (by simpa using hi) (by simpa using hx)
theorem BE:∀{l:List Int} {j:Nat} {x:Int},l[j]? =some x->x≠0->(∀i y,i<j->l[i]? =some y->y=0)->fnz l=x
 |[],_,_,h,_,_=>by simp at h
 |y::l,0,x,h,hx,_=>by
  simp at h;subst h
  rw[fnz,if_neg hx]
 |y::l,j+1,x,h,hx,hn=>by
  rw[fnz,if_pos (hn 0 y (by omega) rfl)]
  exact BE (by simpa using h) hx λi z hi hz=>hn (i+1) z (by omega) (by simpa using hz)
def kA(ds:List Dc)(g:Gl):Int:=if g.op=0 then qv ds g.name g.args.length else 0
theorem BM{ds:List Dc}{l:List Gl}(hd:ds.length<=10000000)(hl:l.length<=1000)(hg:∀g∈l,g.args.length<=10000000):Fun Tryz.prog 166 [slA Dc.av ds,slA Gl.av l] (.int .i64 (fnz (l.map (kA ds)))):=by
 refine Fun.of (jw (by simp) ?_) rfl rfl
 conv=>whnf
 skip;refine az.count (fb:=true) (l.length) (λst_ j=>st_.bD [(5,.int .i64 j)]) (λj=>∀i x,i<j->(l.map (kA ds))[i]? =some x->x=0) ?_ ?_ (λj hj hij=>?_) (λhij=>?_)
 .intro i x hi;omega
 .exact bq
 .obtain ⟨y,hy⟩:∃y,l[j]? =some y:=⟨_,zA hj⟩;have hya:=hg y (zE hy);have hyj:(l.map (kA ds))[j]? =some (kA ds y):=by simp[hy]
  have step:kA ds y=0->∀i x,i<j+1->(l.map (kA ds))[i]? =some x->x=0:=λh0 i x hi hx=>by
   by_cases e:i=j
   .subst e;rw[hyj] at hx;cases hx;exact h0
   .exact hij i x (by omega) hx
  by_cases h0:y.op=0
  .have hc:kA ds y=qv ds y.name y.args.length:=by simp[kA,h0]
   have hdc:=tn (n:=y.name) (a:=(y.args.length:Int)) hd
   by_cases hz:qv ds y.name y.args.length=0
   .rw [hz] at hdc
    conv=>whnf
    repeat' (first|refine gG (a6.fn (hdc) ?_)|(refine gC ?_;first|refine .not ?_|refine gD (cI ?_))|refine gW (wI ?_)|refine gL (.map ?_)|refine gI (gM (iE ?_)))<;>conv=>whnf
    refine⟨step (hc.trans hz),?_⟩;exact bq
   .have hf:=BE hyj (by rw[hc];exact hz) hij
    rw[hc] at hf;rw[hf]
    conv=>whnf
    repeat' (first|refine gG (a6.fn (hdc) ?_)|(refine gC ?_;first|refine .not ?_|(refine gD ?_;first|refine cI ?_|refine cJ ?_))|refine gL (.map ?_)|refine gI (gM (iE ?_))|refine ak.nrm ?_)<;>conv=>whnf
  .have hc:kA ds y=0:=by simp[kA,h0]
   conv=>whnf
   repeat' (first|(refine gC ?_;first|refine .not ?_|(refine gD ?_;first|refine cI ?_|refine cJ ?_))|refine gW (wI ?_)|refine gL (.map ?_)|refine gI (gM (iE ?_)))<;>conv=>whnf
   refine⟨step hc,?_⟩;exact bq
 .rw [E6 λi x hi hx=>hij i x (by simpa using hi) hx]
  conv=>whnf
  repeat' (first|refine gC (gD (cJ ?_))|refine gL (.map ?_)|refine ak.nrm ?_)<;>conv=>whnf
end Go.CK
