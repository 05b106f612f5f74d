/-
  Texts of this aV joined (wip/gen/bundle.py),those declarations only that are needed:RcUni RcAsk RcPla RcLkp AmDf. By an AI agent.
-/
import Derived.RangeFuncLeaves
import Derived.Test.YtcjfkbdbcgmomaaGreatDoorSas
set_option linter.unusedSimpArgs false
set_option linter.unusedVariables false
namespace Go.CK
open Go.AM Go.Proofs
variable{ae:List AV}{bs:List Box}{Q:AV->List Box->Prop}
def lL:RC:=
 (.seq (rR [0,2,4] [oQ 4 (.box 1),oQ 6 (.mov (.c (.bool false)))]) (.seq (rR [0,2,4] [qM 7 0,qK 8 7,qF 9 0 8,qL 10 9,oQ 11 (.bin .sub 10 (.c (.int .i64 1))),qK 12 7,qF 13 0 12,oN (.store 1 13 11)]) (.seq (.seq (rR [0,2,4,22] [qM 14 0,qK 15 14,qF 16 0 15,qL 17 16,oQ 18 (.bin .lss 17 (.c (.int .i64 0))),qM 19 18,oG 20 19 false (.mov 2),oG 21 19 false (.bin .lss 20 (.c (.int .i64 1))),oQ 22 (.pick 19 (.c (.bool true)) 21)]) (.cond 22 (.seq (rR [6] [oQ 6 (.mov (.c (.bool false)))]) .ret) .skip)) (.seq (.seq (rR [0,2,4,24] [qF 23 0 4,qL 24 23]) (.block 0 (.seq (rR [0,2,4,24,25] [oQ 26 (.bin .eql 24 (.c (.int .i64 0))),qM 25 26]) (.cond 25 (.seq (rR [6] [qF 27 1 4,qL 28 27,oQ 29 (.bin .geq 28 (.c (.int .i64 (-2147483648)))),qM 30 29,oG 31 30 true (.bn 1 4),oG 32 30 true (.load false 1 31),oG 33 30 true (.bin .leq 32 (.c (.int .i64 2147483648))),oQ 34 (.pick 30 33 (.c (.bool false))),qM 35 34,oG 36 35 true (.bn 2 4),oG 37 35 true (.load false 1 36),oG 38 35 true (.bin .eql 37 (.c (.str ⟨⟨[]⟩⟩))),oQ 39 (.pick 35 38 (.c (.bool false))),qM 40 39,oG 41 40 true (.bn 3 4),oG 42 40 true (.load false 1 41),oG 43 40 true (.len false 42),oG 44 40 true (.bin .eql 43 (.c (.int .i64 0))),oQ 45 (.pick 40 44 (.c (.bool false))),qM 6 45])
 .ret) (.seq (rR [0,2,4,24,46] [oQ 47 (.bin .eql 24 (.c (.int .i64 1))),qM 46 47]) (.cond 46 (.seq (rR [6] [qF 48 1 4,qL 49 48,oQ 50 (.bin .geq 49 (.c (.int .i64 0))),qM 51 50,oG 52 51 true (.bn 1 4),oG 53 51 true (.load false 1 52),oG 54 51 true (.bin .leq 53 (.c (.int .i64 1048576))),oQ 55 (.pick 51 54 (.c (.bool false))),qM 56 55,oG 57 56 true (.bn 2 4),oG 58 56 true (.load false 1 57),oG 59 56 true (.bin .eql 58 (.c (.str ⟨⟨[]⟩⟩))),oQ 60 (.pick 56 59 (.c (.bool false))),qM 61 60,oG 62 61 true (.bn 3 4),oG 63 61 true (.load false 1 62),oG 64 61 true (.len false 63),oG 65 61 true (.bin .eql 64 (.c (.int .i64 0))),oQ 66 (.pick 61 65 (.c (.bool false))),qM 6 66]) .ret) (.seq (rR [0,2,4,67] [oQ 68 (.bin .eql 24 (.c (.int .i64 2))),qM 67 68]) (.cond 67 (.seq (.seq (rR [0,2,4,77] [qF 69 1 4,qL 70 69,oQ 71 (.bin .neq 70 (.c (.int .i64 0))),qM 72 71,oG 73 72 false (.bn 3 4),oG 74 72 false (.load false 1 73),oG 75 72 false (.len false 74),oG 76 72 false (.bin .gtr 75 (.c (.int .i64 6))),oQ 77 (.pick 72 (.c (.bool true)) 76)])
 (.cond 77 (.seq (rR [6] [oQ 6 (.mov (.c (.bool false)))]) .ret) .skip)) (.seq (.seq (rR [0,2,4,93] [qF 78 2 4,qL 79 78,oQ 80 (cF 95 [79]),oQ 81 (.un .not 80),qM 82 81,oG 83 82 true (.bn 2 4),oG 84 82 true (.load false 1 83),oG 85 82 true (cF 200 [84]),oG 86 82 true (.mov 85),oG 87 86 true (.bn 3 4),oG 88 86 true (.load false 1 87),oG 89 86 true (.len false 88),oG 90 86 true (.bin .eql 89 (.c (.int .i64 2))),oG 91 82 true (.pick 86 90 (.c (.bool false))),oG 92 82 true (.un .not 91),oQ 93 (.pick 82 92 (.c (.bool false)))]) (.cond 93 (.seq (rR [6] [oQ 6 (.mov (.c (.bool false)))]) .ret) .skip)) (.seq (rR [6] [qM 94 0,qF 95 3 4,qL 96 95,qM 97 2,oQ 98 (.bin .sub 97 (.c (.int .i64 1))),oQ 99 (cF 102 [94,96,98]),qM 6 99]) .ret))) .skip)))))))) (.seq (rR [6] [oQ 6 (.mov (.c (.bool false)))]) .ret)))))
theorem lV(hn:ae.length<=100)(h:SP Tryz.prog true ae bs lL [.slot 6] Q):AM.Sem Tryz.prog 153 ae bs Q:=
 oZ (keeps:=[(0,[0,2,4]),(1,[0,2,4]),(2,[0,2,4,22]),(3,[6]),(4,[0,2,4,24]),(5,[0,2,4,24,25]),(7,[0,2,4,24,46]),(9,[0,2,4,67]),(10,[0,2,4,77]),(11,[6]),(12,[0,2,4,93]),(13,[6]),(14,[6]),(8,[6]),(6,[6]),(15,[6])]) (solo:=[]) Tryz.func153 rfl hn h
def mZ:RC:=
 (.seq (rR [0,1,2] [oQ 6 (.mov (.c (.bool false)))]) (.seq (.seq (rR [0,1,2,9,10] [qM 8 1,oQ 9 (.len false 8),oQ 10 (.mov (.c (.int .i64 0)))]) (.block 0 (.loop (.seq (rR [0,1,2,9,10,11] [oQ 11 (.bin .lss 10 9)]) (.seq (.cond 11 .skip (.exit 0)) (.seq (.block 1 (.seq (rR [0,1,2,7,9,10] [qM 12 10,qM 7 12]) (.seq (rR [0,1,2,9,10,20] [qM 13 0,qM 14 1,qM 15 7,qI 16 4 14 15,qA 17 4 16,qM 18 2,oQ 19 (cF 153 [13,17,18]),oQ 20 (.un .not 19)]) (.cond 20 (.seq (rR [6] [oQ 6 (.mov (.c (.bool false)))]) .ret) .skip)))) (rR [0,1,2,9,10] [oQ 21 (.bin .add 10 (.c (.int .i64 1))),qM 10 21]))))))) (.seq (rR [6] [oQ 6 (.mov (.c (.bool true)))]) .ret)))
theorem ng(hn:ae.length<=22)(h:SP Tryz.prog true ae bs mZ [.slot 6] Q):AM.Sem Tryz.prog 102 ae bs Q:=
 oZ (keeps:=[(0,[0,1,2]),(1,[0,1,2,9,10]),(2,[0,1,2,9,10,11]),(3,[0,1,2,7,9,10]),(4,[0,1,2,9,10,20]),(5,[6]),(6,[0,1,2,9,10]),(7,[6])]) (solo:=[]) Tryz.func102 rfl hn h
def vi:RC:=
 (.seq (rR [0] [oQ 2 (.mov (.c (.bool false)))]) (.seq (rR [2] [qM 3 0,oQ 4 (cF 148 [3,(.c (.int .u8 1))]),qM 5 4,oG 6 5 true (.mov 0),oG 7 5 true (cF 149 [6]),oG 8 5 true (.un .not 7),oQ 9 (.pick 5 8 (.c (.bool false))),qM 2 9]) .ret))
theorem vk(hn:ae.length<=10)(h:SP Tryz.prog true ae bs vi [.slot 2] Q):AM.Sem Tryz.prog 95 ae bs Q:=
 oZ (keeps:=[(0,[0]),(1,[2])]) (solo:=[]) Tryz.func95 rfl hn h
def qu:RC:=
 (.seq (rR [0] [oQ 2 (.mov (.c (.bool false)))]) (.seq (rR [2] [qM 3 0,oQ 4 (.len true 3),oQ 5 (.bin .eql 4 (.c (.int .i64 1))),qM 6 5,oG 7 6 true (.mov 0),oG 8 6 true (cF 232 [(.c (.str ⟨⟨[43,45,42,47,37]⟩⟩)),7]),oQ 9 (.pick 6 8 (.c (.bool false))),qM 2 9]) .ret))
theorem kT(hn:ae.length<=10)(h:SP Tryz.prog true ae bs qu [.slot 2] Q):AM.Sem Tryz.prog 200 ae bs Q:=
 oZ (keeps:=[(0,[0]),(1,[2])]) (solo:=[]) Tryz.func200 rfl hn h
def qt:RC:=
 (.seq (rR [0] [oQ 2 (.mov (.c (.bool false)))]) (.seq (.seq (rR [3] [qM 3 0]) (.block 0 (.seq (.seq (rR [3,4] [oQ 5 (.bin .eql 3 (.c (.str ⟨⟨[99,111,110,115,116,114,97,105,110,116]⟩⟩))),qM 4 5]) (.cond 4 .skip (.seq (rR [3,4] [oQ 6 (.bin .eql 3 (.c (.str ⟨⟨[116,114,117,101]⟩⟩))),qM 4 6]) (.cond 4 .skip (.seq (rR [3,4] [oQ 7 (.bin .eql 3 (.c (.str ⟨⟨[102,97,105,108]⟩⟩))),qM 4 7]) (.cond 4 .skip (.seq (rR [3,4] [oQ 8 (.bin .eql 3 (.c (.str ⟨⟨[105,115]⟩⟩))),qM 4 8]) (.cond 4 .skip (.seq (rR [3,4] [oQ 9 (.bin .eql 3 (.c (.str ⟨⟨[105,110,116]⟩⟩))),qM 4 9]) (.cond 4 .skip (rR [4] [oQ 10 (.bin .eql 3 (.c (.str ⟨⟨[103,114,111,117,110,100]⟩⟩))),qM 4 10]))))))))))) (.cond 4 (.seq (rR [2] [oQ 2 (.mov (.c (.bool true)))]) .ret) .skip)))) (.seq (rR [2] [oQ 2 (.mov (.c (.bool false)))]) .ret)))
theorem qy(hn:ae.length<=11)(h:SP Tryz.prog true ae bs qt [.slot 2] Q):AM.Sem Tryz.prog 149 ae bs Q:=
 oZ (keeps:=[(0,[0]),(1,[3]),(2,[3,4]),(3,[3,4]),(4,[3,4]),(5,[3,4]),(6,[3,4]),(7,[4]),(8,[2]),(9,[2])]) (solo:=[]) Tryz.func149 rfl hn h
def jJ:RC:=
 (.seq (rR [0,3,4] [oQ 3 (.box 1),oQ 4 (.box (.c (.agg [(.int .i64 0),(.int .i64 0),(.str ⟨⟨[]⟩⟩),(.sl .full [])])))]) (.seq (.seq (rR [0,3,4,8] [qF 7 0 3,qL 8 7]) (.block 0 (.seq (rR [0,3,4,8,9] [oQ 10 (.bin .eql 8 (.c (.int .i64 1))),qM 9 10]) (.cond 9 (.seq (rR [3,4,5,6] [qM 12 0,qF 13 1 3,qL 14 13,oQ 15 (cF 243 [12,14]),qM 11 15,oQ 16 (.ext 0 11),oQ 17 (.ext 1 11),oQ 5 (.box (.c (.agg [(.int .i64 0),(.int .i64 0),(.str ⟨⟨[]⟩⟩),(.sl .full [])]))),oN (.store 4 5 16),qM 6 17]) (.seq (rR [3,4,5,18] [qM 18 6]) (.cond 18 (.seq (rR [4] [qA 19 4 5,oN (.store 4 4 19)]) .ret) .skip))) (.seq (rR [0,3,4,20] [oQ 21 (.bin .eql 8 (.c (.int .i64 2))),qM 20 21]) (.cond 20 (rR [3,4] [qM 22 0,qF 23 3 3,qL 24 23,oQ 25 (cF 190 [22,24]),qF 26 3 3,oN (.store 1 26 25)]) .skip)))))) (.seq (rR [4] [qA 27 4 3,oN (.store 4 4 27)]) .ret)))
theorem bw(hn:ae.length<=28)(h:SP Tryz.prog true ae bs jJ [.cell 4 true 4] Q):AM.Sem Tryz.prog 216 ae bs Q:=
 oZ (keeps:=[(0,[0,3,4]),(1,[0,3,4,8]),(2,[0,3,4,8,9]),(6,[0,3,4,20]),(7,[3,4]),(3,[3,4,5,6]),(4,[3,4,5,18]),(5,[4]),(8,[4])]) (solo:=[]) Tryz.func216 rfl hn h
def jc:RC:=
 (.seq (rR [0,1,4] [oQ 4 (.box (.c (.agg [(.int .i64 0),(.int .i64 0),(.str ⟨⟨[]⟩⟩),(.sl .full [])]))),oQ 5 (.mov (.c (.bool false)))]) (.seq (.seq (rR [0,1,4,6] [oQ 6 (.mov (.c (.int .i64 0)))]) (.block 0 (.loop (.seq (.seq (rR [0,1,4,6,10] [qM 7 6,qM 8 0,oQ 9 (.len false 8),oQ 10 (.bin .lss 7 9)]) (.cond 10 .skip (.exit 0))) (.seq (.block 1 (.seq (rR [0,1,4,6,19] [qM 13 0,qM 14 6,qI 15 5 13 14,qF 16 0 15,qL 17 16,qM 18 1,oQ 19 (.bin .eql 17 18)]) (.cond 19 (.seq (rR [4,5] [qM 20 0,qM 21 6,qI 22 5 20 21,qF 23 1 22,qA 24 4 23,oN (.store 4 4 24),oQ 5 (.mov (.c (.bool true)))]) .ret) .skip))) (rR [0,1,4,6] [qM 11 6,oQ 12 (.bin .add 11 (.c (.int .i64 1))),qM 6 12])))))) (.seq (rR [4,5] [oQ 25 (.build [(.int .i64 0),(.int .i64 0),(.str ⟨⟨[]⟩⟩),(.sl .full [])] []),oN (.store 4 4 25),oQ 5 (.mov (.c (.bool false)))]) .ret)))
theorem je(hn:ae.length<=26)(h:SP Tryz.prog true ae bs jc [.cell 4 true 4,.slot 5] Q):AM.Sem Tryz.prog 243 ae bs Q:=
 oZ (keeps:=[(0,[0,1,4]),(1,[0,1,4,6]),(2,[0,1,4,6,10]),(4,[0,1,4,6,19]),(5,[4,5]),(3,[0,1,4,6]),(6,[4,5])]) (solo:=[]) Tryz.func243 rfl hn h
def fJ:RC:=
 (.seq (rR [0,1] [oQ 4 (.mov (.c (.sl .full [])))]) (.seq (rR [0,1,5] [oQ 5 (.mov (.c (.sl .full [])))]) (.seq (.seq (rR [0,1,5,6] [oQ 6 (.mov (.c (.int .i64 0)))]) (.block 0 (.loop (.seq (.seq (rR [0,1,5,6,10] [qM 7 6,qM 8 1,oQ 9 (.len false 8),oQ 10 (.bin .lss 7 9)]) (.cond 10 .skip (.exit 0))) (.seq (.block 1 (rR [0,1,5,6] [qM 13 5,qM 14 0,qM 15 1,qM 16 6,qI 17 4 15 16,qA 18 4 17,oQ 19 (cF 216 [14,18]),oQ 20 (.aZ 4 [19]),oQ 21 (.append 4 13 20),qM 5 21])) (rR [0,1,5,6] [qM 11 6,oQ 12 (.bin .add 11 (.c (.int .i64 1))),qM 6 12])))))) (.seq (rR [4] [qM 22 5,qM 4 22]) .ret))))
theorem fM(hn:ae.length<=23)(h:SP Tryz.prog true ae bs fJ [.slot 4] Q):AM.Sem Tryz.prog 190 ae bs Q:=
 oZ (keeps:=[(0,[0,1]),(1,[0,1,5]),(2,[0,1,5,6]),(3,[0,1,5,6,10]),(5,[0,1,5,6]),(4,[0,1,5,6]),(6,[4])]) (solo:=[]) Tryz.func190 rfl hn h
def jO:RC:=
 (.seq (rR [1] [oQ 1 (.box 0),oQ 2 (.mov (.c (.bool false)))]) (.seq (rR [2] [qA 3 4 1,oQ 4 (cF 210 [3]),qM 5 4,oG 6 5 true (.load true 4 1),oG 7 5 true (cF 185 [6]),oG 8 5 true (.bin .leq 7 (.c (.int .i64 200))),oQ 9 (.pick 5 8 (.c (.bool false))),qM 10 9,oG 11 10 true (.load true 4 1),oG 12 10 true (cF 211 [11]),oG 13 10 true (.bin .leq 12 (.c (.int .i64 20))),oQ 14 (.pick 10 13 (.c (.bool false))),qM 2 14]) .ret))
theorem jZ(hn:ae.length<=15)(h:SP Tryz.prog true ae bs jO [.slot 2] Q):AM.Sem Tryz.prog 184 ae bs Q:=
 oZ (keeps:=[(0,[1]),(1,[2])]) (solo:=[]) Tryz.func184 rfl hn h
def kK:RC:=
 (.seq (rR [1] [oQ 1 (.box 0),oQ 2 (.mov (.c (.bool false)))]) (.seq (.seq (rR [1,6] [qF 5 0 1,qL 6 5]) (.block 0 (.seq (rR [1,6,7] [oQ 8 (.bin .eql 6 (.c (.int .i64 0))),qM 7 8]) (.cond 7 (.seq (rR [2] [qF 9 1 1,qL 10 9,oQ 11 (.bin .geq 10 (.c (.int .i64 (-2147483648)))),qM 12 11,oG 13 12 true (.bn 1 1),oG 14 12 true (.load false 1 13),oG 15 12 true (.bin .leq 14 (.c (.int .i64 2147483648))),oQ 16 (.pick 12 15 (.c (.bool false))),qM 17 16,oG 18 17 true (.bn 2 1),oG 19 17 true (.load false 1 18),oG 20 17 true (.bin .eql 19 (.c (.str ⟨⟨[]⟩⟩))),oQ 21 (.pick 17 20 (.c (.bool false))),qM 22 21,oG 23 22 true (.bn 3 1),oG 24 22 true (.load false 1 23),oG 25 22 true (.len false 24),oG 26 22 true (.bin .eql 25 (.c (.int .i64 0))),oQ 27 (.pick 22 26 (.c (.bool false))),qM 2 27]) .ret) (.seq (rR [1,6,28] [oQ 29 (.bin .eql 6 (.c (.int .i64 1))),qM 28 29]) (.cond 28
 (.seq (rR [2] [qF 30 1 1,qL 31 30,oQ 32 (.bin .geq 31 (.c (.int .i64 0))),qM 33 32,oG 34 33 true (.bn 1 1),oG 35 33 true (.load false 1 34),oG 36 33 true (.bin .leq 35 (.c (.int .i64 1048576))),oQ 37 (.pick 33 36 (.c (.bool false))),qM 38 37,oG 39 38 true (.bn 2 1),oG 40 38 true (.load false 1 39),oG 41 38 true (.bin .eql 40 (.c (.str ⟨⟨[]⟩⟩))),oQ 42 (.pick 38 41 (.c (.bool false))),qM 43 42,oG 44 43 true (.bn 3 1),oG 45 43 true (.load false 1 44),oG 46 43 true (.len false 45),oG 47 43 true (.bin .eql 46 (.c (.int .i64 0))),oQ 48 (.pick 43 47 (.c (.bool false))),qM 2 48]) .ret) (.seq (rR [1,49] [oQ 50 (.bin .eql 6 (.c (.int .i64 2))),qM 49 50]) (.cond 49 (.seq (rR [1,3] [qF 51 2 1,qL 52 51,oQ 53 (cF 236 [52]),qM 54 53,oG 55 54 true (.bn 3 1),oG 56 54 true (.load false 1 55),oG 57 54 true (.len false 56),oG 58 54 true (.bin .eql 57 (.c (.int .i64 2))),oQ 59 (.pick 54 58 (.c (.bool false))),qM 3 59])
 (.seq (.seq (rR [1,78] [qF 60 1 1,qL 61 60,oQ 62 (.bin .neq 61 (.c (.int .i64 0))),qM 63 62,oG 64 63 false (.mov 3),oG 65 63 false (.un .not 64),oG 66 63 false (.mov 65),oG 67 66 true (.bn 2 1),oG 68 66 true (.load false 1 67),oG 69 66 true (cF 61 [68]),oG 70 66 true (.un .not 69),oG 71 66 true (.mov 70),oG 72 71 false (.bn 3 1),oG 73 71 false (.load false 1 72),oG 74 71 false (.len false 73),oG 75 71 false (.bin .gtr 74 (.c (.int .i64 6))),oG 76 66 true (.pick 71 (.c (.bool true)) 75),oG 77 63 false (.pick 66 76 (.c (.bool false))),oQ 78 (.pick 63 (.c (.bool true)) 77)]) (.cond 78 (.seq (rR [2] [oQ 2 (.mov (.c (.bool false)))]) .ret) .skip)) (.seq (.seq (rR [1,4] [oQ 4 (.mov (.c (.int .i64 0)))]) (.block 1 (.loop (.seq (.seq (rR [1,4,83] [qM 79 4,qF 80 3 1,qL 81 80,oQ 82 (.len false 81),oQ 83 (.bin .lss 79 82)]) (.cond 83 .skip (.exit 1))) (.seq (.block 2
 (.seq (rR [1,4,92] [qF 86 3 1,qL 87 86,qM 88 4,qI 89 4 87 88,qA 90 4 89,oQ 91 (cF 210 [90]),oQ 92 (.un .not 91)]) (.cond 92 (.seq (rR [2] [oQ 2 (.mov (.c (.bool false)))]) .ret) .skip))) (rR [1,4] [qM 84 4,oQ 85 (.bin .add 84 (.c (.int .i64 1))),qM 4 85])))))) (.seq (rR [2] [oQ 2 (.mov (.c (.bool true)))]) .ret)))) .skip)))))))) (.seq (rR [2] [oQ 2 (.mov (.c (.bool false)))]) .ret)))
theorem aC(hn:ae.length<=93)(h:SP Tryz.prog true ae bs kK [.slot 2] Q):AM.Sem Tryz.prog 210 ae bs Q:=
 oZ (keeps:=[(0,[1]),(1,[1,6]),(2,[1,6,7]),(4,[1,6,28]),(6,[1,49]),(7,[1,3]),(8,[1,78]),(9,[2]),(10,[1,4]),(11,[1,4,83]),(13,[1,4,92]),(14,[2]),(12,[1,4]),(15,[2]),(5,[2]),(3,[2]),(16,[2])]) (solo:=[]) Tryz.func210 rfl hn h
def kM:RC:=
 (.seq (rR [1] [oQ 1 (.box 0),oQ 2 (.mov (.c (.int .i64 0)))]) (.seq (rR [1,3] [oQ 3 (.mov (.c (.int .i64 1)))]) (.seq (rR [3,4] [qA 6 4 1,oQ 7 (cF 212 [6]),qM 4 7]) (.seq (.seq (rR [3,4,5] [oQ 5 (.mov (.c (.int .i64 0)))]) (.block 0 (.loop (.seq (.seq (rR [3,4,5,11] [qM 8 5,qM 9 4,oQ 10 (.len false 9),oQ 11 (.bin .lss 8 10)]) (.cond 11 .skip (.exit 0))) (.seq (.block 1 (rR [3,4,5] [qM 14 3,qM 15 4,qM 16 5,qI 17 4 15 16,qA 18 4 17,oQ 19 (cF 185 [18]),oQ 20 (.bin .add 14 19),qM 3 20])) (rR [3,4,5] [qM 12 5,oQ 13 (.bin .add 12 (.c (.int .i64 1))),qM 5 13])))))) (.seq (rR [2] [qM 21 3,qM 2 21]) .ret)))))
theorem kW(hn:ae.length<=22)(h:SP Tryz.prog true ae bs kM [.slot 2] Q):AM.Sem Tryz.prog 185 ae bs Q:=
 oZ (keeps:=[(0,[1]),(1,[1,3]),(2,[3,4]),(3,[3,4,5]),(4,[3,4,5,11]),(6,[3,4,5]),(5,[3,4,5]),(7,[2])]) (solo:=[]) Tryz.func185 rfl hn h
def jQ:RC:=
 (.seq (rR [1] [oQ 1 (.box 0),oQ 2 (.mov (.c (.int .i64 0)))]) (.seq (rR [1,3] [oQ 3 (.mov (.c (.int .i64 0)))]) (.seq (rR [3,4] [qA 6 4 1,oQ 7 (cF 212 [6]),qM 4 7]) (.seq (.seq (rR [3,4,5] [oQ 5 (.mov (.c (.int .i64 0)))]) (.block 0 (.loop (.seq (.seq (rR [3,4,5,11] [qM 8 5,qM 9 4,oQ 10 (.len false 9),oQ 11 (.bin .lss 8 10)]) (.cond 11 .skip (.exit 0))) (.seq (.block 1 (rR [3,4,5] [qM 14 3,qM 15 4,qM 16 5,qI 17 4 15 16,qA 18 4 17,oQ 19 (cF 211 [18]),oQ 20 (.iR true 14 19),qM 3 20])) (rR [3,4,5] [qM 12 5,oQ 13 (.bin .add 12 (.c (.int .i64 1))),qM 5 13])))))) (.seq (rR [2] [qM 21 3,oQ 22 (.bin .add 21 (.c (.int .i64 1))),qM 2 22]) .ret)))))
theorem j1(hn:ae.length<=23)(h:SP Tryz.prog true ae bs jQ [.slot 2] Q):AM.Sem Tryz.prog 211 ae bs Q:=
 oZ (keeps:=[(0,[1]),(1,[1,3]),(2,[3,4]),(3,[3,4,5]),(4,[3,4,5,11]),(6,[3,4,5]),(5,[3,4,5]),(7,[2])]) (solo:=[]) Tryz.func211 rfl hn h
def kN:RC:=
 (.seq (rR [2,3] [oQ 2 (.box 0),oQ 3 (.box 1),oQ 4 (.mov (.c (.bool false)))]) (.seq (rR [4] [qA 5 4 2,qA 6 4 3,oQ 7 (cF 161 [5,6]),oQ 8 (.bin .eql 7 (.c (.int .i64 0))),qM 4 8]) .ret))
theorem kX(hn:ae.length<=9)(h:SP Tryz.prog true ae bs kN [.slot 4] Q):AM.Sem Tryz.prog 189 ae bs Q:=
 oZ (keeps:=[(0,[2,3]),(1,[4])]) (solo:=[]) Tryz.func189 rfl hn h
def gy:RC:=
 (.seq (rR [0] [oQ 2 (.mov (.c (.bool false)))]) (.seq (rR [2] [qM 3 0,oQ 4 (.bin .eql 3 (.c (.str ⟨⟨[43]⟩⟩))),qM 5 4,oG 6 5 false (.mov 0),oG 7 5 false (.bin .eql 6 (.c (.str ⟨⟨[45]⟩⟩))),oQ 8 (.pick 5 (.c (.bool true)) 7),qM 9 8,oG 10 9 false (.mov 0),oG 11 9 false (.bin .eql 10 (.c (.str ⟨⟨[42]⟩⟩))),oQ 12 (.pick 9 (.c (.bool true)) 11),qM 13 12,oG 14 13 false (.mov 0),oG 15 13 false (.bin .eql 14 (.c (.str ⟨⟨[47]⟩⟩))),oQ 16 (.pick 13 (.c (.bool true)) 15),qM 17 16,oG 18 17 false (.mov 0),oG 19 17 false (.bin .eql 18 (.c (.str ⟨⟨[37]⟩⟩))),oQ 20 (.pick 17 (.c (.bool true)) 19),qM 2 20]) .ret))
theorem gR(hn:ae.length<=21)(h:SP Tryz.prog true ae bs gy [.slot 2] Q):AM.Sem Tryz.prog 236 ae bs Q:=
 oZ (keeps:=[(0,[0]),(1,[2])]) (solo:=[]) Tryz.func236 rfl hn h
def jT:RC:=
 (.seq (rR [0] [oQ 2 (.mov (.c (.bool false)))]) (.seq (rR [2] [qM 3 0,oQ 4 (cF 111 [3]),qM 5 4,oG 6 5 true (.mov 0),oG 7 5 true (.oW 6 (.c (.int .i64 0))),oG 8 5 true (cF 112 [7]),oQ 9 (.pick 5 8 (.c (.bool false))),qM 10 9,oG 11 10 true (.mov 0),oG 12 10 true (cF 113 [11]),oG 13 10 true (.un .not 12),oQ 14 (.pick 10 13 (.c (.bool false))),qM 2 14]) .ret))
theorem dL(hn:ae.length<=15)(h:SP Tryz.prog true ae bs jT [.slot 2] Q):AM.Sem Tryz.prog 61 ae bs Q:=
 oZ (keeps:=[(0,[0]),(1,[2])]) (solo:=[]) Tryz.func61 rfl hn h
def kO:RC:=
 (.seq (rR [0] [oQ 2 (.mov (.c (.bool false)))]) (.seq (.seq (rR [0,3] [oQ 3 (.mov (.c (.int .i64 0)))]) (.block 0 (.loop (.seq (.seq (rR [0,3,7] [qM 4 3,qM 5 0,oQ 6 (.len true 5),oQ 7 (.bin .lss 4 6)]) (.cond 7 .skip (.exit 0))) (.seq (.block 1 (.seq (rR [0,3,39] [qM 10 0,qM 11 3,oQ 12 (.oW 10 11),oQ 13 (cF 112 [12]),oQ 14 (.un .not 13),qM 15 14,oG 16 15 true (.mov 0),oG 17 15 true (.mov 3),oG 18 15 true (.oW 16 17),oG 19 15 true (cF 162 [18]),oG 20 15 true (.un .not 19),oQ 21 (.pick 15 20 (.c (.bool false))),qM 22 21,oG 23 22 true (.mov 0),oG 24 22 true (.mov 3),oG 25 22 true (.oW 23 24),oG 26 22 true (.bin .lss 25 (.c (.int .u8 48))),oG 27 22 true (.mov 26),oG 28 27 false (.mov 0),oG 29 27 false (.mov 3),oG 30 27 false (.oW 28 29),oG 31 27 false (.bin .gtr 30 (.c (.int .u8 57))),oG 32 22 true (.pick 27 (.c (.bool true)) 31),oQ 33 (.pick 22 32 (.c (.bool false))),qM 34 33,oG 35 34 true (.mov 0),oG 36 34 true (.mov 3),oG 37 34 true (.oW 35 36),oG 38 34 true (.bin .neq 37 (.c (.int .u8 95))),oQ 39 (.pick 34 38 (.c (.bool false)))])
 (.cond 39 (.seq (rR [2] [oQ 2 (.mov (.c (.bool false)))]) .ret) .skip))) (rR [0,3] [qM 8 3,oQ 9 (.bin .add 8 (.c (.int .i64 1))),qM 3 9])))))) (.seq (rR [2] [qM 40 0,oQ 41 (.len true 40),oQ 42 (.bin .geq 41 (.c (.int .i64 1))),qM 43 42,oG 44 43 true (.mov 0),oG 45 43 true (.len true 44),oG 46 43 true (.bin .leq 45 (.c (.int .i64 40))),oQ 47 (.pick 43 46 (.c (.bool false))),qM 2 47]) .ret)))
theorem kY(hn:ae.length<=48)(h:SP Tryz.prog true ae bs kO [.slot 2] Q):AM.Sem Tryz.prog 111 ae bs Q:=
 oZ (keeps:=[(0,[0]),(1,[0,3]),(2,[0,3,7]),(4,[0,3,39]),(5,[2]),(3,[0,3]),(6,[2])]) (solo:=[]) Tryz.func111 rfl hn h
def jS:RC:=
 (.seq (rR [0] [oQ 2 (.mov (.c (.bool false)))]) (.seq (rR [2] [qM 3 0,oQ 4 (.bin .geq 3 (.c (.int .u8 97))),qM 5 4,oG 6 5 true (.mov 0),oG 7 5 true (.bin .leq 6 (.c (.int .u8 122))),oQ 8 (.pick 5 7 (.c (.bool false))),qM 2 8]) .ret))
theorem j3(hn:ae.length<=9)(h:SP Tryz.prog true ae bs jS [.slot 2] Q):AM.Sem Tryz.prog 112 ae bs Q:=
 oZ (keeps:=[(0,[0]),(1,[2])]) (solo:=[]) Tryz.func112 rfl hn h
def gx:RC:=
 (.seq (rR [0] [oQ 2 (.mov (.c (.bool false)))]) (.seq (rR [2] [qM 3 0,oQ 4 (.bin .eql 3 (.c (.str ⟨⟨[99,111,110,115,116,114,97,105,110,116]⟩⟩))),qM 5 4,oG 6 5 false (.mov 0),oG 7 5 false (.bin .eql 6 (.c (.str ⟨⟨[116,114,117,101]⟩⟩))),oQ 8 (.pick 5 (.c (.bool true)) 7),qM 9 8,oG 10 9 false (.mov 0),oG 11 9 false (.bin .eql 10 (.c (.str ⟨⟨[102,97,105,108]⟩⟩))),oQ 12 (.pick 9 (.c (.bool true)) 11),qM 13 12,oG 14 13 false (.mov 0),oG 15 13 false (.bin .eql 14 (.c (.str ⟨⟨[105,115]⟩⟩))),oQ 16 (.pick 13 (.c (.bool true)) 15),qM 17 16,oG 18 17 false (.mov 0),oG 19 17 false (.bin .eql 18 (.c (.str ⟨⟨[105,110,116]⟩⟩))),oQ 20 (.pick 17 (.c (.bool true)) 19),qM 21 20,oG 22 21 false (.mov 0),oG 23 21 false (.bin .eql 22 (.c (.str ⟨⟨[103,114,111,117,110,100]⟩⟩))),oQ 24 (.pick 21 (.c (.bool true)) 23),qM 2 24]) .ret))
theorem gQ(hn:ae.length<=25)(h:SP Tryz.prog true ae bs gx [.slot 2] Q):AM.Sem Tryz.prog 113 ae bs Q:=
 oZ (keeps:=[(0,[0]),(1,[2])]) (solo:=[]) Tryz.func113 rfl hn h
def jR:RC:=
 (.seq (rR [0] [oQ 2 (.mov (.c (.bool false)))]) (.seq (rR [2] [qM 3 0,oQ 4 (.bin .geq 3 (.c (.int .u8 65))),qM 5 4,oG 6 5 true (.mov 0),oG 7 5 true (.bin .leq 6 (.c (.int .u8 90))),oQ 8 (.pick 5 7 (.c (.bool false))),qM 2 8]) .ret))
theorem j2(hn:ae.length<=9)(h:SP Tryz.prog true ae bs jR [.slot 2] Q):AM.Sem Tryz.prog 162 ae bs Q:=
 oZ (keeps:=[(0,[0]),(1,[2])]) (solo:=[]) Tryz.func162 rfl hn h
def rV:RC:=
 (.seq (rR [0,3,4] [oQ 3 (.box 1),oQ 4 (.box (.c (.agg [(.int .i64 0),(.int .i64 0),(.str ⟨⟨[]⟩⟩),(.sl .full [])]))),oQ 5 (.mov (.c (.bool false)))]) (.seq (rR [0,4,6] [qM 7 0,oQ 8 (.sd (.func 245) [] [3]),oQ 9 (cF 244 [7,8]),qM 6 9]) (.seq (.seq (rR [0,4,6,11] [qM 10 6,oQ 11 (.bin .lss 10 (.c (.int .i64 0)))]) (.cond 11 (.seq (rR [4,5] [oQ 12 (.build [(.int .i64 0),(.int .i64 0),(.str ⟨⟨[]⟩⟩),(.sl .full [])] []),oN (.store 4 4 12),oQ 5 (.mov (.c (.bool false)))]) .ret) .skip)) (.seq (rR [4,5] [qM 13 0,qM 14 6,qI 15 5 13 14,qF 16 1 15,qA 17 4 16,oN (.store 4 4 17),oQ 5 (.mov (.c (.bool true)))]) .ret))))
theorem rY(hn:ae.length<=18)(h:SP Tryz.prog true ae bs rV [.cell 4 true 4,.slot 5] Q):AM.Sem Tryz.prog 217 ae bs Q:=
 oZ (keeps:=[(0,[0,3,4]),(1,[0,4,6]),(2,[0,4,6,11]),(3,[4,5]),(4,[4,5])]) (solo:=[]) Tryz.func217 rfl hn h
def tr:RC:=
 (.seq (rR [0,3,4] [oQ 3 (.box 1),oQ 4 (.box (.c (.agg [(.int .i64 0),(.int .i64 0),(.str ⟨⟨[]⟩⟩),(.sl .full [])])))]) (.seq (.seq (rR [0,3,4,8] [qF 7 0 3,qL 8 7]) (.block 0 (.seq (rR [0,3,4,8,9] [oQ 10 (.bin .eql 8 (.c (.int .i64 1))),qM 9 10]) (.cond 9 (.seq (rR [3,4,5,6] [qM 12 0,qF 13 1 3,qL 14 13,oQ 15 (cF 217 [12,14]),qM 11 15,oQ 16 (.ext 0 11),oQ 17 (.ext 1 11),oQ 5 (.box (.c (.agg [(.int .i64 0),(.int .i64 0),(.str ⟨⟨[]⟩⟩),(.sl .full [])]))),oN (.store 4 5 16),qM 6 17]) (.seq (rR [3,4,5,18] [qM 18 6]) (.cond 18 (.seq (rR [4] [qA 19 4 5,oN (.store 4 4 19)]) .ret) .skip))) (.seq (rR [0,3,4,20] [oQ 21 (.bin .eql 8 (.c (.int .i64 2))),qM 20 21]) (.cond 20 (rR [3,4] [qM 22 0,qF 23 3 3,qL 24 23,oQ 25 (cF 144 [22,24]),qF 26 3 3,oN (.store 1 26 25)]) .skip)))))) (.seq (rR [4] [qA 27 4 3,oN (.store 4 4 27)]) .ret)))
theorem tx(hn:ae.length<=28)(h:SP Tryz.prog true ae bs tr [.cell 4 true 4] Q):AM.Sem Tryz.prog 191 ae bs Q:=
 oZ (keeps:=[(0,[0,3,4]),(1,[0,3,4,8]),(2,[0,3,4,8,9]),(6,[0,3,4,20]),(7,[3,4]),(3,[3,4,5,6]),(4,[3,4,5,18]),(5,[4]),(8,[4])]) (solo:=[]) Tryz.func191 rfl hn h
def qq:RC:=
 (.seq (rR [0,1] [oQ 4 (.mov (.c (.sl .full [])))]) (.seq (rR [0,5] [qM 7 1,oQ 8 (cF 150 [7]),qM 5 8]) (.seq (.seq (rR [0,5,10,11] [qM 9 5,oQ 10 (.len false 9),oQ 11 (.mov (.c (.int .i64 0)))]) (.block 0 (.loop (.seq (rR [0,5,10,11,12] [oQ 12 (.bin .lss 11 10)]) (.seq (.cond 12 .skip (.exit 0)) (.seq (.block 1 (.seq (rR [0,5,6,10,11] [qM 13 11,qM 6 13]) (rR [0,5,10,11] [qM 14 5,qM 15 6,qM 16 0,qM 17 5,qM 18 6,qI 19 4 17 18,qA 20 4 19,oQ 21 (cF 191 [16,20]),qI 22 4 14 15,oN (.store 4 22 21)]))) (rR [0,5,10,11] [oQ 23 (.bin .add 11 (.c (.int .i64 1))),qM 11 23]))))))) (.seq (rR [4] [qM 24 5,qM 4 24]) .ret))))
theorem qx(hn:ae.length<=25)(h:SP Tryz.prog true ae bs qq [.slot 4] Q):AM.Sem Tryz.prog 144 ae bs Q:=
 oZ (keeps:=[(0,[0,1]),(1,[0,5]),(2,[0,5,10,11]),(3,[0,5,10,11,12]),(4,[0,5,6,10,11]),(5,[0,5,10,11]),(6,[0,5,10,11]),(7,[4])]) (solo:=[]) Tryz.func144 rfl hn h
def pz:RC:=
 (.seq (rR [1,2] [oQ 2 (.box 0),oQ 3 (.mov (.c (.bool false)))]) (.seq (rR [3] [qF 4 0 2,qL 5 4,qL 6 1,oQ 7 (.bin .eql 5 6),qM 3 7]) .ret))
theorem pB(hn:ae.length<=8)(h:SP Tryz.prog true ae bs pz [.slot 3] Q):AM.Sem Tryz.prog 245 ae bs Q:=
 oZ (keeps:=[(0,[1,2]),(1,[3])]) (solo:=[]) Tryz.func245 rfl hn h
def db:RC:=
 (.seq (rR [0,1] [oQ 4 (.mov (.c (.int .i64 0)))]) (.seq (.seq (rR [0,1,7,8] [qM 6 0,oQ 7 (.len false 6),oQ 8 (.mov (.c (.int .i64 0)))]) (.block 0 (.loop (.seq (rR [0,1,7,8,9] [oQ 9 (.bin .lss 8 7)]) (.seq (.cond 9 .skip (.exit 0)) (.seq (.block 1 (.seq (rR [0,1,5,7,8] [qM 10 8,qM 5 10]) (.seq (rR [0,1,5,7,8,16] [qM 11 1,qM 12 0,qM 13 5,qI 14 5 12 13,qA 15 5 14,oQ 16 (.dP 11 [15])]) (.cond 16 (.seq (rR [4] [qM 17 5,qM 4 17]) .ret) .skip)))) (rR [0,1,7,8] [oQ 18 (.bin .add 8 (.c (.int .i64 1))),qM 8 18]))))))) (.seq (rR [4] [oQ 4 (.mov (.c (.int .i64 (-1))))]) .ret)))
theorem df(hn:ae.length<=19)(h:SP Tryz.prog true ae bs db [.slot 4] Q):AM.Sem Tryz.prog 244 ae bs Q:=
 oZ (keeps:=[(0,[0,1]),(1,[0,1,7,8]),(2,[0,1,7,8,9]),(3,[0,1,5,7,8]),(4,[0,1,5,7,8,16]),(5,[4]),(6,[0,1,7,8]),(7,[4])]) (solo:=[]) Tryz.func244 rfl hn h
def en:RC:=
 (.seq (rR [0] [oQ 2 (.mov (.c (.sl .full [])))]) (.seq (.seq (rR [0,4] [qM 3 0,oQ 4 (.eff (.A4 false) [3])]) (.cond 4 (.seq (rR [2] [oQ 2 (.mov (.c (.sl .full [])))]) .ret) .skip)) (.seq (rR [2] [oQ 5 (.aZ 4 []),qM 6 0,oQ 7 (.eff (.sk 4) [5,6]),qM 2 7]) .ret)))
theorem er(hn:ae.length<=8)(h:SP Tryz.prog true ae bs en [.slot 2] Q):AM.Sem Tryz.prog 150 ae bs Q:=
 oZ (keeps:=[(0,[0]),(1,[0,4]),(2,[2]),(3,[2]),(1000000,[7])]) (solo:=[]) Tryz.func150 rfl hn h
end Go.CK
namespace Go.CK
open Go.AM Go.Proofs
variable{ae:List AV}{bs:List Box}{Q:AV->List Box->Prop}
def px:RC:=
 (.seq (rR [1] [oQ 1 (.box 0),oQ 2 (.mov (.c (.bool false)))]) (.seq (rR [1,3] [oQ 4 (.build [(.int .i64 0)] [(0,1,(.c (.int .i64 200)))]),oQ 5 (.box 4),qM 3 5]) (.seq (rR [2] [qF 6 0 1,qL 7 6,oQ 8 (cF 95 [7]),qM 9 8,oG 10 9 true (.bn 1 1),oG 11 9 true (.load false 1 10),oG 12 9 true (.len false 11),oG 13 9 true (.bin .leq 12 (.c (.int .i64 6))),oQ 14 (.pick 9 13 (.c (.bool false))),qM 15 14,oG 16 15 true (.mov 3),oG 17 15 true (.bn 1 1),oG 18 15 true (.load false 1 17),oG 19 15 true (cF 102 [16,18,(.c (.int .i64 20))]),oQ 20 (.pick 15 19 (.c (.bool false))),qM 2 20]) .ret)))
theorem eH(hn:ae.length<=21)(h:SP Tryz.prog true ae bs px [.slot 2] Q):AM.Sem Tryz.prog 49 ae bs Q:=
 oZ (keeps:=[(0,[1]),(1,[1,3]),(2,[2])]) (solo:=[]) Tryz.func49 rfl hn h
def fZ:RC:=
 (.seq (rR [1] [oQ 1 (.box 0),oQ 2 (.mov (.c (.bool false)))]) (.seq (rR [2] [qF 3 0 1,qL 4 3,oQ 5 (cF 61 [4]),qM 6 5,oG 7 6 true (.bn 1 1),oG 8 6 true (.load false 1 7),oG 9 6 true (.len false 8),oG 10 6 true (.bin .leq 9 (.c (.int .i64 6))),oQ 11 (.pick 6 10 (.c (.bool false))),qM 12 11,oG 13 12 true (.bn 1 1),oG 14 12 true (.load false 1 13),oG 15 12 true (cF 135 [14]),oQ 16 (.pick 12 15 (.c (.bool false))),qM 2 16]) .ret))
theorem bE(hn:ae.length<=17)(h:SP Tryz.prog true ae bs fZ [.slot 2] Q):AM.Sem Tryz.prog 75 ae bs Q:=
 oZ (keeps:=[(0,[1]),(1,[2])]) (solo:=[]) Tryz.func75 rfl hn h
def fY:RC:=
 (.seq (rR [0] [oQ 2 (.mov (.c (.bool false)))]) (.seq (rR [0,3] [oQ 3 (.mov (.c (.int .i64 0)))]) (.seq (.seq (rR [0,3,4] [oQ 4 (.mov (.c (.int .i64 0)))]) (.block 0 (.loop (.seq (.seq (rR [0,3,4,8] [qM 5 4,qM 6 0,oQ 7 (.len false 6),oQ 8 (.bin .lss 5 7)]) (.cond 8 .skip (.exit 0))) (.seq (.block 1 (.seq (.seq (rR [0,3,4,16] [qM 11 0,qM 12 4,qI 13 4 11 12,qA 14 4 13,oQ 15 (cF 184 [14]),oQ 16 (.un .not 15)]) (.cond 16 (.seq (rR [2] [oQ 2 (.mov (.c (.bool false)))]) .ret) .skip)) (rR [0,3,4] [qM 17 3,qM 18 0,qM 19 4,qI 20 4 18 19,qA 21 4 20,oQ 22 (cF 185 [21]),oQ 23 (.bin .add 17 22),qM 3 23]))) (rR [0,3,4] [qM 9 4,oQ 10 (.bin .add 9 (.c (.int .i64 1))),qM 4 10])))))) (.seq (rR [2] [qM 24 3,oQ 25 (.bin .leq 24 (.c (.int .i64 200))),qM 2 25]) .ret))))
theorem gb(hn:ae.length<=26)(h:SP Tryz.prog true ae bs fY [.slot 2] Q):AM.Sem Tryz.prog 135 ae bs Q:=
 oZ (keeps:=[(0,[0]),(1,[0,3]),(2,[0,3,4]),(3,[0,3,4,8]),(5,[0,3,4,16]),(6,[2]),(7,[0,3,4]),(4,[0,3,4]),(8,[2])]) (solo:=[]) Tryz.func135 rfl hn h
def lQ:RC:=
 (.seq (rR [0,1,4] [oQ 4 (.box (.c (.agg [(.int .i64 0),(.int .i64 0),(.str ⟨⟨[]⟩⟩),(.sl .full [])])))]) (.seq (rR [4] [qM 5 0,oQ 6 (.aZ 4 []),qM 7 1,oQ 8 (.append 4 6 7),oQ 9 (.build [(.int .i64 0),(.int .i64 0),(.str ⟨⟨[]⟩⟩),(.sl .full [])] [(0,1,(.c (.int .i64 2))),(2,1,5),(3,1,8)]),oN (.store 4 4 9)]) .ret))
theorem lW(hn:ae.length<=10)(h:SP Tryz.prog true ae bs lQ [.cell 4 true 4] Q):AM.Sem Tryz.prog 39 ae bs Q:=
 oZ (keeps:=[(0,[0,1,4]),(1,[4])]) (solo:=[]) Tryz.func39 rfl hn h
def jP:RC:=
 (.seq (rR [0,1] [oQ 4 (.mov (.c (.bool false)))]) (.seq (rR [4] [qM 5 0,qM 6 1,oQ 7 (cF 93 [5,6,(.c (.int .i64 64))]),oQ 8 (.bin .lss 7 (.c (.int .i64 0))),qM 4 8]) .ret))
theorem j0(hn:ae.length<=9)(h:SP Tryz.prog true ae bs jP [.slot 4] Q):AM.Sem Tryz.prog 38 ae bs Q:=
 oZ (keeps:=[(0,[0,1]),(1,[4])]) (solo:=[]) Tryz.func38 rfl hn h
end Go.CK
namespace Go.CK
end Go.CK
namespace Go.CK
open Go.AM Go.Proofs
variable{ae:List AV}{bs:List Box}{Q:AV->List Box->Prop}
def cK:RC:=
 (.seq (rR [0,1] [oQ 4 (.mov (.c (.int .i64 0)))]) (.seq (.seq (rR [0,1,7,8] [qM 6 0,oQ 7 (.len false 6),oQ 8 (.mov (.c (.int .i64 0)))]) (.block 0 (.loop (.seq (rR [0,1,7,8,9] [oQ 9 (.bin .lss 8 7)]) (.seq (.cond 9 .skip (.exit 0)) (.seq (.block 1 (.seq (rR [0,1,5,7,8] [qM 10 8,qM 5 10]) (.seq (rR [0,1,5,7,8,16] [qM 11 1,qM 12 0,qM 13 5,qI 14 3 12 13,qA 15 3 14,oQ 16 (.dP 11 [15])]) (.cond 16 (.seq (rR [4] [qM 17 5,qM 4 17]) .ret) .skip)))) (rR [0,1,7,8] [oQ 18 (.bin .add 8 (.c (.int .i64 1))),qM 8 18]))))))) (.seq (rR [4] [oQ 4 (.mov (.c (.int .i64 (-1))))]) .ret)))
theorem cL(hn:ae.length<=19)(h:SP Tryz.prog true ae bs cK [.slot 4] Q):AM.Sem Tryz.prog 94 ae bs Q:=
 oZ (keeps:=[(0,[0,1]),(1,[0,1,7,8]),(2,[0,1,7,8,9]),(3,[0,1,5,7,8]),(4,[0,1,5,7,8,16]),(5,[4]),(6,[0,1,7,8]),(7,[4])]) (solo:=[]) Tryz.func94 rfl hn h
end Go.CK
namespace Go.AM
open Go.CK Go.RowKit
section
variable{P:Program}{F:Fence}{n:Nat}
end
section
variable{P:Program}{E:Entry}{G:Gh}{s:St}{a:Act}{w:World}
end
section
variable{P:Program}{nt:Nat}{ops:Array Oper}{E:Entry}{rd:Option Nat}{n:Nat}
end
end Go.AM
