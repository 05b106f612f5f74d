/-
  Texts of this aZ joined (wip/gen/bundle.py),those declarations only that are needed:RcUnr UrA. By an AI agent.
-/
import Derived.Test.YtpihbplamelcnaaGreatBbc
set_option linter.unusedSimpArgs false
set_option linter.unusedVariables false
namespace Go.CK
open Go.AM Go.Proofs
variable{vals:List AV}{bs:List Box}{Q:AV->List Box->Prop}
def eS:RC:=
 (.seq (rR [0,1] [oQ 4 (.mov (.c (.int .i64 0)))]) (.seq (.seq (rR [0,1,5] [oQ 5 (.mov (.c (.int .i64 0)))]) (.block 0 (.loop (.seq (.seq (rR [0,1,5,12] [qM 6 5,qM 7 0,qK 8 7,qF 9 0 8,oQ 10 (.lod 1 false 1 9),oQ 11 (.len false 10),oQ 12 (.bin .lss 6 11)]) (.cond 12 .skip (.exit 0))) (.seq (.block 1 (.seq (rR [0,1,5,34] [qM 15 0,qK 16 15,qF 17 1 16,qL 18 17,qM 19 5,qI 20 1 18 19,qL 21 20,qM 22 1,oQ 23 (.bin .eql 21 22),qM 24 23,oG 25 24 true (.mov 0),oG 26 24 true (.j8 25),oG 27 24 true (.aF 0 26),oG 28 24 true (.lod 1 false 1 27),oG 29 24 true (.mov 5),oG 30 24 true (.idx 4 28 29),oG 31 24 true (.aF 0 30),oG 32 24 true (.load false 1 31),oG 33 24 true (.bin .neq 32 (.c (.int .i64 1))),oQ 34 (.pick 24 33 (.c (.bool false)))]) (.cond 34 (.seq (rR [4] [qM 35 5,qM 4 35]) .ret) .skip))) (rR [0,1,5] [qM 13 5,oQ 14 (.bin .add 13 (.c (.int .i64 1))),qM 5 14]))))))
 (.seq (rR [4] [oQ 4 (.mov (.c (.int .i64 (-1))))]) .ret)))
theorem fa(hn:vals.length<=36)(h:SP Tryz.prog true vals bs eS [.slot 4] Q):AM.Sem Tryz.prog 162 vals bs Q:=
 oZ (keeps:=[(0,[0,1]),(1,[0,1,5]),(2,[0,1,5,12]),(4,[0,1,5,34]),(5,[4]),(3,[0,1,5]),(6,[4]),(1000000,[8010,8028])]) (solo:=[]) Tryz.func162 rfl hn h
def eT:RC:=
 (.seq (rR [0,1] [oQ 4 (.mov (.c (.int .i64 0)))]) (.seq (rR [0,1,5] [oQ 5 (.mov (.c (.int .i64 (-1))))]) (.seq (.seq (rR [0,1,5,6] [oQ 6 (.mov (.c (.int .i64 0)))]) (.block 0 (.loop (.seq (.seq (rR [0,1,5,6,13] [qM 7 6,qM 8 0,qK 9 8,qF 10 0 9,oQ 11 (.lod 1 false 1 10),oQ 12 (.len false 11),oQ 13 (.bin .lss 7 12)]) (.cond 13 .skip (.exit 0))) (.seq (.block 1 (.seq (rR [0,1,5,6,51] [qM 16 0,qK 17 16,qF 18 1 17,qL 19 18,qM 20 6,qI 21 1 19 20,qL 22 21,qM 23 1,oQ 24 (.bin .eql 22 23),qM 25 24,oG 26 25 true (.mov 0),oG 27 25 true (.j8 26),oG 28 25 true (.aF 0 27),oG 29 25 true (.lod 1 false 1 28),oG 30 25 true (.mov 6),oG 31 25 true (.idx 4 29 30),oG 32 25 true (.aF 0 31),oG 33 25 true (.load false 1 32),oG 34 25 true (.bin .eql 33 (.c (.int .i64 1))),oQ 35 (.pick 25 34 (.c (.bool false))),qM 36 35,oG 37 36 true (.mov 5),oG 38 36 true (.bin .lss 37 (.c (.int .i64 0))),oG 39 36 true (.mov 38),oG 40 39 false (.mov 0),oG 41 39 false (.j8 40),oG 42 39 false (.aF 0 41),oG 43 39 false (.lod 1 false 1 42),oG 44 39 false (.mov 6),oG 45 39 false (.idx 4 43 44),oG 46 39 false (.aF 1 45),oG 47 39 false (.load false 1 46),oG 48 39 false (.mov 5),oG 49 39 false (.bin .lss 47 48),oG 50 36 true (.pick 39 (.c (.bool true)) 49),oQ 51 (.pick 36 50 (.c (.bool false)))])
 (.cond 51 (rR [0,1,5,6] [qM 52 0,qK 53 52,qF 54 0 53,oQ 55 (.lod 1 false 1 54),qM 56 6,qI 57 4 55 56,qF 58 1 57,qL 59 58,qM 5 59]) .skip))) (rR [0,1,5,6] [qM 14 6,oQ 15 (.bin .add 14 (.c (.int .i64 1))),qM 6 15])))))) (.seq (rR [4] [qM 60 5,qM 4 60]) .ret))))
theorem fc(hn:vals.length<=61)(h:SP Tryz.prog true vals bs eT [.slot 4] Q):AM.Sem Tryz.prog 163 vals bs Q:=
 oZ (keeps:=[(0,[0,1]),(1,[0,1,5]),(2,[0,1,5,6]),(3,[0,1,5,6,13]),(5,[0,1,5,6,51]),(6,[0,1,5,6]),(4,[0,1,5,6]),(7,[4]),(1000000,[8011,8029,8043,8055])]) (solo:=[]) Tryz.func163 rfl hn h
def fz:RC:=
 (.seq (rR [0,1,4] [oQ 4 (.box (.c (.agg [(.int .i64 0),(.int .i64 0),(.str ⟨⟨[]⟩⟩),(.sl .full [])])))]) (.seq (rR [0,1,4,5] [qM 8 0,qM 9 1,oQ 10 (cF 162 [8,9]),qM 5 10]) (.seq (.seq (rR [0,1,4,5,12] [qM 11 5,oQ 12 (.bin .lss 11 (.c (.int .i64 0)))]) (.cond 12 (.seq (rR [4] [qM 13 0,qM 14 1,oQ 15 (cF 163 [13,14]),oQ 16 (.build [(.int .i64 0),(.int .i64 0),(.str ⟨⟨[]⟩⟩),(.sl .full [])] [(0,1,(.c (.int .i64 1))),(1,1,15)]),oN (.store 4 4 16)]) .ret) .skip)) (.seq (.reg true [0,4,5,6] [qM 17 0,qK 18 17,qF 19 0 18,qL 20 19,qM 21 5,qI 22 4 20 21,qF 23 0 22,qL 24 23,qM 25 0,qK 26 25,qF 27 0 26,qL 28 27,qM 29 5,qI 30 4 28 29,qF 31 1 30,qL 32 31,qM 33 0,qK 34 33,qF 35 0 34,qL 36 35,qM 37 5,qI 38 4 36 37,qF 39 2 38,qL 40 39,oQ 41 (.build [(.int .i64 0),(.int .i64 0),(.str ⟨⟨[]⟩⟩),(.sl .full [])] [(0,1,24),(1,1,32),(2,1,40)]),oQ 6 (.box (.c (.agg [(.int .i64 0),(.int .i64 0),(.str ⟨⟨[]⟩⟩),(.sl .full [])]))),oN (.store 4 6 41)])
 (.seq (.seq (rR [0,4,5,6,7] [oQ 7 (.mov (.c (.int .i64 0)))]) (.block 0 (.loop (.seq (.seq (rR [0,4,5,6,7,52] [qM 42 7,qM 43 0,qK 44 43,qF 45 0 44,oQ 46 (.lod 1 false 1 45),qM 47 5,qI 48 4 46 47,qF 49 3 48,qL 50 49,oQ 51 (.len false 50),oQ 52 (.bin .lss 42 51)]) (.cond 52 .skip (.exit 0))) (.seq (.block 1 (.mult [0,4,5,6,7] [(0,qF 55 3 6),(0,qL 56 55),(0,qM 57 0),(0,qM 58 0),(0,qK 59 58),(0,qF 60 1 59),(0,qL 61 60),(0,qM 62 0),(0,qK 63 62),(0,qF 64 0 63),(0,qL 65 64),(0,qM 66 5),(0,qI 67 4 65 66),(0,qF 68 3 67),(0,qL 69 68),(0,qM 70 7),(0,qI 71 1 69 70),(0,qL 72 71),(0,qI 73 1 61 72),(0,qL 74 73),(2,oQ 75 (cF 164 [57,74])),(0,oQ 76 (.aM 4 [75])),(1,oQ 77 (.eff (.qS 4) [56,76])),(0,qF 78 3 6),(1,oN (.store 1 78 77))])) (rR [0,4,5,6,7] [qM 53 7,oQ 54 (.bin .add 53 (.c (.int .i64 1))),qM 7 54])))))) (.seq
 (rR [4] [qA 79 4 6,oN (.store 4 4 79)]) .ret))))))
theorem fB(hn:vals.length<=80)(h:SP Tryz.prog true vals bs fz [.cell 4 true 4] Q):AM.Sem Tryz.prog 164 vals bs Q:=
 oZ (keeps:=[(0,[0,1,4]),(1,[0,1,4,5]),(2,[0,1,4,5,12]),(3,[4]),(4,[0,4,5,6]),(5,[0,4,5,6,7]),(6,[0,4,5,6,7,52]),(8,[0,4,5,6,7]),(7,[0,4,5,6,7]),(9,[4]),(1000000,[77,8046]),(2000008,[0,1,2,3,4,5,6,7,8,9,10,11,12,13,14,15,16,17,18,19,20,21,22,23,24]),(3000008,[0,0,0,0,0,0,0,0,0,0,0,0,0,0,0,0,0,0,0,0,2,0,1,0,1])]) (solo:=[]) Tryz.func164 rfl hn h
def fA:RC:=
 (.seq (rR [0,1,2] [oQ 6 (.mov (.c (.bool false)))]) (.seq (.reg true [0,7,8] [qM 15 0,qK 16 15,qF 17 1 16,qL 18 17,qM 19 1,qI 20 1 18 19,qL 21 20,qM 22 0,qK 23 22,qF 24 1 23,qL 25 24,qM 26 2,qI 27 1 25 26,qL 28 27,qM 7 21,qM 8 28]) (.seq (.seq (rR [0,7,8,31] [qM 29 7,qM 30 8,oQ 31 (.bin .eql 29 30)]) (.cond 31 (.seq (rR [6] [oQ 6 (.mov (.c (.bool true)))]) .ret) .skip)) (.seq (rR [0,7,8,9,10] [qM 32 0,qM 33 7,oQ 34 (cF 162 [32,33]),qM 35 0,qM 36 8,oQ 37 (cF 162 [35,36]),qM 9 34,qM 10 37]) (.seq (.seq (rR [0,7,8,9,10,11] [oQ 11 (.mov (.c (.int .i64 0)))]) (.block 0 (.loop (.seq (.seq (rR [0,7,8,9,10,11,44] [qM 38 11,qM 39 0,qK 40 39,qF 41 1 40,qL 42 41,oQ 43 (.len false 42),oQ 44 (.bin .lss 38 43)]) (.cond 44 .skip (.exit 0))) (.seq (.block 1 (.seq (rR [0,7,8,9,10,11,55] [qM 47 0,qK 48 47,qF 49 1 48,qL 50 49,qM 51 11,qI 52 1 50 51,qL 53 52,qM 54 8,oQ 55 (.bin .eql 53 54)])
 (.cond 55 (rR [0,7,8,9,10,11] [qM 56 0,qK 57 56,qF 58 1 57,qL 59 58,qM 60 11,qM 61 7,qI 62 1 59 60,oN (.store 1 62 61)]) .skip))) (rR [0,7,8,9,10,11] [qM 45 11,oQ 46 (.bin .add 45 (.c (.int .i64 1))),qM 11 46])))))) (.seq (.seq (rR [0,9,10,68] [qM 63 9,oQ 64 (.bin .lss 63 (.c (.int .i64 0))),qM 65 64,oG 66 65 false (.mov 10),oG 67 65 false (.bin .lss 66 (.c (.int .i64 0))),oQ 68 (.pick 65 (.c (.bool true)) 67)]) (.cond 68 (.seq (rR [6] [oQ 6 (.mov (.c (.bool true)))]) .ret) .skip)) (.seq (.both [0,12,13] [(0,qM 69 0),(0,qK 70 69),(0,qF 71 0 70),(0,qL 72 71),(0,qM 73 9),(0,qI 74 4 72 73),(0,qA 75 4 74),(0,qM 76 0),(0,qK 77 76),(0,qF 78 0 77),(0,oQ 79 (.lod 1 false 1 78)),(0,qM 80 10),(0,qI 81 4 79 80),(0,oQ 82 (.more (.lde true 4) [81]))] [(0,oQ 12 (.box (.c (.agg [(.int .i64 0),(.int .i64 0),(.str ⟨⟨[]⟩⟩),(.sl .full [])])))),(0,oQ 13 (.box (.c (.agg [(.int .i64 0),(.int .i64 0),(.str ⟨⟨[]⟩⟩),(.sl .full [])])))),(0,oN (.stn 1 4 12 75)),(0,oN (.store 4 13 82))] [
 (0,oQ 13 (.box (.c (.agg [(.int .i64 0),(.int .i64 0),(.str ⟨⟨[]⟩⟩),(.sl .full [])])))),(0,oQ 12 (.box (.c (.agg [(.int .i64 0),(.int .i64 0),(.str ⟨⟨[]⟩⟩),(.sl .full [])])))),(0,oN (.stn 1 4 12 75)),(0,oN (.store 4 13 82))]) (.seq (.seq (rR [0,12,13,110] [qF 83 0 12,qL 84 83,qF 85 0 13,qL 86 85,oQ 87 (.bin .neq 84 86),qM 88 87,oG 89 88 false (.aF 1 12),oG 90 88 false (.load false 1 89),oG 91 88 false (.aF 1 13),oG 92 88 false (.load false 1 91),oG 93 88 false (.bin .neq 90 92),oQ 94 (.pick 88 (.c (.bool true)) 93),qM 95 94,oG 96 95 false (.aF 2 12),oG 97 95 false (.load false 1 96),oG 98 95 false (.aF 2 13),oG 99 95 false (.load false 1 98),oG 100 95 false (.bin .neq 97 99),oQ 101 (.pick 95 (.c (.bool true)) 100),qM 102 101,oG 103 102 false (.aF 3 12),oG 104 102 false (.load false 1 103),oG 105 102 false (.len false 104),oG 106 102 false (.aF 3 13),oG 107 102 false (.load false 1 106),oG 108 102 false (.len false 107),oG 109 102 false (.bin .neq 105 108),oQ 110 (.pick 102 (.c (.bool true)) 109)])
 (.cond 110 (.seq (rR [6] [oQ 6 (.mov (.c (.bool false)))]) .ret) .skip)) (.seq (.seq (rR [0,12,13,14] [oQ 14 (.mov (.c (.int .i64 0)))]) (.block 2 (.loop (.seq (.seq (rR [0,12,13,14,115] [qM 111 14,qF 112 3 12,qL 113 112,oQ 114 (.len false 113),oQ 115 (.bin .lss 111 114)]) (.cond 115 .skip (.exit 2))) (.seq (.block 3 (.seq (.mult [0,12,13,14,130] [(0,qM 118 0),(0,qF 119 3 12),(0,qL 120 119),(0,qM 121 14),(0,qI 122 1 120 121),(0,qL 123 122),(0,qF 124 3 13),(0,qL 125 124),(0,qM 126 14),(0,qI 127 1 125 126),(0,qL 128 127),(1,oQ 129 (cF 160 [118,123,128])),(0,oQ 130 (.un .not 129))]) (.cond 130 (.seq (rR [6] [oQ 6 (.mov (.c (.bool false)))]) .ret) .skip))) (rR [0,12,13,14] [qM 116 14,oQ 117 (.bin .add 116 (.c (.int .i64 1))),qM 14 117])))))) (.seq (rR [6] [oQ 6 (.mov (.c (.bool true)))]) .ret))))))))))
theorem fC(hn:vals.length<=131)(h:SP Tryz.prog true vals bs fA [.slot 6] Q):AM.Sem Tryz.prog 160 vals bs Q:=
 oZ (keeps:=[(0,[0,1,2]),(1,[0,7,8]),(2,[0,7,8,31]),(3,[6]),(4,[0,7,8,9,10]),(5,[0,7,8,9,10,11]),(6,[0,7,8,9,10,11,44]),(8,[0,7,8,9,10,11,55]),(9,[0,7,8,9,10,11]),(7,[0,7,8,9,10,11]),(10,[0,9,10,68]),(11,[6]),(12,[0,12,13]),(13,[0,12,13,110]),(14,[6]),(15,[0,12,13,14]),(16,[0,12,13,14,115]),(18,[0,12,13,14,130]),(19,[6]),(17,[0,12,13,14]),(20,[6]),(1000000,[9012,8079,82]),(4000012,[14,15,0,1,2,3,4,5,6,7,8,9,10,11,12,13]),(5000012,[15,16,17]),(6000012,[14,16,17]),(2000018,[0,1,2,3,4,5,6,7,8,9,10,11,12]),(3000018,[0,0,0,0,0,0,0,0,0,0,0,1,0])]) (solo:=[]) Tryz.func160 rfl hn h
def eU:RC:=
 (.seq (rR [0,3] [oQ 3 (.box 1),oQ 4 (.mov (.c (.int .i64 0)))]) (.seq (.seq (rR [0,3,10] [qF 8 0 3,qL 9 8,oQ 10 (.bin .eql 9 (.c (.int .i64 1)))]) (.cond 10 (.seq (rR [0,3,5] [oQ 5 (.mov (.c (.int .i64 0)))]) (.block 0 (.loop (.seq (.seq (rR [0,3,5,17] [qM 11 5,qM 12 0,qK 13 12,qF 14 0 13,oQ 15 (.lod 1 false 1 14),oQ 16 (.len false 15),oQ 17 (.bin .lss 11 16)]) (.cond 17 .skip (.exit 0))) (.seq (.block 1 (.seq (.reg true [0,3,5,41] [oQ 20 (.take 0),qK 21 20,qF 22 0 21,qL 23 22,oQ 24 (.take 5),qI 25 4 23 24,qF 26 0 25,qL 27 26,oQ 28 (.bin .eql 27 (.c (.int .i64 1))),oQ 29 (.take 28),oG 30 29 true (.take 0),oG 31 29 true (.j8 30),oG 32 29 true (.aF 0 31),oG 33 29 true (.load false 1 32),oG 34 29 true (.take 5),oG 35 29 true (.idx 4 33 34),oG 36 29 true (.aF 1 35),oG 37 29 true (.load false 1 36),oG 38 29 true (.aF 1 3),oG 39 29 true (.load false 1 38),oG 40 29 true (.bin .eql 37 39),oQ 41 (.pick 29 40 (.c (.bool false)))])
 (.cond 41 (.seq (rR [4] [qM 42 5,qM 4 42]) .ret) .skip))) (rR [0,3,5] [qM 18 5,oQ 19 (.bin .add 18 (.c (.int .i64 1))),qM 5 19])))))) .skip)) (.seq (rR [0,3,6] [qF 43 0 3,qL 44 43,qF 45 1 3,qL 46 45,qF 47 2 3,qL 48 47,oQ 49 (.build [(.int .i64 0),(.int .i64 0),(.str ⟨⟨[]⟩⟩),(.sl .full [])] [(0,1,44),(1,1,46),(2,1,48)]),oQ 6 (.box (.c (.agg [(.int .i64 0),(.int .i64 0),(.str ⟨⟨[]⟩⟩),(.sl .full [])]))),oN (.store 4 6 49)]) (.seq (.seq (rR [0,3,6,7] [oQ 7 (.mov (.c (.int .i64 0)))]) (.block 2 (.loop (.seq (.seq (rR [0,3,6,7,54] [qM 50 7,qF 51 3 3,qL 52 51,oQ 53 (.len false 52),oQ 54 (.bin .lss 50 53)]) (.cond 54 .skip (.exit 2))) (.seq (.block 3 (.mult [0,3,6,7] [(0,qF 57 3 6),(0,qL 58 57),(0,qM 59 0),(0,qF 60 3 3),(0,qL 61 60),(0,qM 62 7),(0,qI 63 4 61 62),(0,qA 64 4 63),(2,oQ 65 (cF 159 [59,64])),(0,oQ 66 (.aM 1 [65])),(1,oQ 67 (.eff (.qS 1) [58,66])),(0,qF 68 3 6),(1,oN (.store 1 68 67))]))
 (rR [0,3,6,7] [qM 55 7,oQ 56 (.bin .add 55 (.c (.int .i64 1))),qM 7 56])))))) (.seq (.mult [0] [(0,qM 69 0),(0,qM 70 0),(0,qK 71 70),(0,qF 72 0 71),(0,qA 74 4 6),(0,oQ 75 (.aM 4 [74])),(2,qL 73 72),(0,oQ 76 (.append 4 73 75)),(0,qK 77 69),(0,qF 78 0 77),(1,oN (.store 1 78 76))]) (.seq (.mult [0] [(0,qM 79 0),(0,qM 80 0),(0,qK 81 80),(0,qF 82 1 81),(0,qL 83 82),(0,qM 84 0),(0,qK 85 84),(0,qF 86 0 85),(0,qL 87 86),(0,oQ 88 (.len false 87)),(0,oQ 89 (.bin .sub 88 (.c (.int .i64 1)))),(0,oQ 90 (.aM 1 [89])),(2,oQ 91 (.eff (.qS 1) [83,90])),(0,qK 92 79),(0,qF 93 1 92),(1,oN (.store 1 93 91))]) (.seq (rR [4] [qM 94 0,qK 95 94,qF 96 0 95,oQ 97 (.lod 1 false 1 96),oQ 98 (.len false 97),oQ 99 (.bin .sub 98 (.c (.int .i64 1))),qM 4 99]) .ret)))))))
theorem fe(hn:vals.length<=100)(h:SP Tryz.prog true vals bs eU [.slot 4] Q):AM.Sem Tryz.prog 159 vals bs Q:=
 oZ (keeps:=[(0,[0,3]),(1,[0,3,10]),(2,[0,3,5]),(3,[0,3,5,17]),(5,[0,3,5,41]),(6,[4]),(4,[0,3,5]),(7,[0,3,6]),(8,[0,3,6,7]),(9,[0,3,6,7,54]),(11,[0,3,6,7]),(10,[0,3,6,7]),(12,[0]),(13,[0]),(14,[4]),(1000000,[67,91,8015,8097]),(2000011,[0,1,2,3,4,5,6,7,8,9,10,11,12]),(3000011,[0,0,0,0,0,0,0,0,2,0,1,0,1]),(2000012,[0,1,2,3,5,6,4,7,8,9,10]),(3000012,[0,0,0,0,2,0,0,0,0,0,1]),(2000013,[0,1,2,3,4,5,6,7,8,9,10,11,12,13,14,15]),(3000013,[0,0,0,0,0,0,0,0,0,0,0,0,2,0,0,1])]) (solo:=[]) Tryz.func159 rfl hn h
def dZ:RC:=
 (.seq (rR [0] [oQ 2 (.mov (.c (.sl .full []))),oQ 3 (.mov (.c (.bool false)))]) (.seq (rR [0,4] [qM 15 0,qK 16 15,qF 17 0 16,oQ 18 (.lod 1 false 1 17),oQ 19 (.len false 18),oQ 20 (.eff (.mkB 2 (.agg [(.int .i64 0),(.int .i64 0)])) [19,19]),qM 4 20]) (.seq (rR [0,4,5] [oQ 5 (.mov (.c (.int .i64 0)))]) (.seq (.seq (rR [0,4,5,6] [oQ 6 (.mov (.c (.int .i64 0)))]) (.block 0 (.loop (.seq (.seq (rR [0,4,5,6,27] [qM 21 6,qM 22 0,qK 23 22,qF 24 0 23,oQ 25 (.lod 1 false 1 24),oQ 26 (.len false 25),oQ 27 (.bin .lss 21 26)]) (.cond 27 .skip (.exit 0))) (.seq (.block 1 (.seq (rR [0,4,5,6,38] [qM 30 0,qK 31 30,qF 32 1 31,qL 33 32,qM 34 6,qI 35 1 33 34,qL 36 35,qM 37 6,oQ 38 (.bin .eql 36 37)]) (.cond 38 (rR [0,4,5,6] [qM 39 5,oQ 40 (.bin .add 39 (.c (.int .i64 1))),qM 5 40]) .skip))) (rR [0,4,5,6] [qM 28 6,oQ 29 (.bin .add 28 (.c (.int .i64 1))),qM 6 29]))))))
 (.seq (.block 2 (.loop (.seq (.seq (rR [0,4,5,42] [qM 41 5,oQ 42 (.bin .gtr 41 (.c (.int .i64 0)))]) (.cond 42 .skip (.exit 2))) (.block 3 (.seq (rR [0,4,5,7] [qM 43 5,qM 7 43]) (.seq (.seq (rR [0,4,5,7,8] [oQ 8 (.mov (.c (.int .i64 0)))]) (.block 4 (.loop (.seq (.seq (rR [0,4,5,7,8,50] [qM 44 8,qM 45 0,qK 46 45,qF 47 0 46,oQ 48 (.lod 1 false 1 47),oQ 49 (.len false 48),oQ 50 (.bin .lss 44 49)]) (.cond 50 .skip (.exit 4))) (.seq (.block 5 (.seq (rR [0,4,5,7,8,9] [qM 53 0,qK 54 53,qF 55 1 54,qL 56 55,qM 57 8,qI 58 1 56 57,qL 59 58,qM 9 59]) (.seq (.seq (rR [0,4,5,7,8,9,65] [qM 60 4,qM 61 9,qI 62 2 60 61,qF 63 0 62,qL 64 63,oQ 65 (.bin .gtr 64 (.c (.int .i64 0)))]) (.cond 65 (.exit 5) .skip)) (.seq (rR [0,4,5,7,8,9,10] [qM 66 0,qM 67 9,oQ 68 (cF 162 [66,67]),qM 10 68]) (.seq (rR [0,4,5,7,8,9,10,11] [oQ 69 (.build [(.int .i64 0),(.int .i64 0)] [(0,1,(.c (.int .i64 1))),(1,1,(.c (.int .i64 1)))]),oQ 11 (.box (.c (.agg [(.int .i64 0),(.int .i64 0)]))),oN (.store 2 11 69)])
 (.seq (rR [0,4,5,7,8,9,10,11,12] [oQ 12 (.mov (.c (.bool true)))]) (.seq (.seq (rR [0,4,5,7,8,9,10,11,12,13] [oQ 13 (.mov (.c (.int .i64 0)))]) (.block 6 (.loop (.seq (.seq (rR [0,4,5,7,8,9,10,11,12,13,84] [qM 70 10,oQ 71 (.bin .geq 70 (.c (.int .i64 0))),qM 72 71,oG 73 72 true (.mov 13),oG 74 72 true (.mov 0),oG 75 72 true (.j8 74),oG 76 72 true (.aF 0 75),oG 77 72 true (.lod 1 false 1 76),oG 78 72 true (.mov 10),oG 79 72 true (.idx 4 77 78),oG 80 72 true (.aF 3 79),oG 81 72 true (.load false 1 80),oG 82 72 true (.len false 81),oG 83 72 true (.bin .lss 73 82),oQ 84 (.pick 72 83 (.c (.bool false)))]) (.cond 84 .skip (.exit 6))) (.seq (.block 7 (.seq (.reg true [0,4,5,7,8,9,10,11,12,13,14] [qM 87 4,qM 88 0,qK 89 88,qF 90 1 89,qL 91 90,qM 92 0,qK 93 92,qF 94 0 93,qL 95 94,qM 96 10,qI 97 4 95 96,qF 98 3 97,qL 99 98,qM 100 13,qI 101 1 99 100,qL 102 101,qI 103 1 91 102,qL 104 103,qI 105 2 87 104,qA 106 2 105,oQ 14 (.box (.c (.agg [(.int .i64 0),(.int .i64 0)]))),oN (.store 2 14 106)])
 (.seq (rR [0,4,5,7,8,9,10,11,12,13,14] [qM 107 12,qM 108 107,oG 109 108 true (.aF 0 14),oG 110 108 true (.load false 1 109),oG 111 108 true (.bin .gtr 110 (.c (.int .i64 0))),oQ 112 (.pick 108 111 (.c (.bool false))),qM 12 112]) (.seq (rR [0,4,5,7,8,9,10,11,12,13,14] [qF 113 0 11,qL 114 113,qF 115 0 14,qL 116 115,oQ 117 (.bin .add 114 116),oQ 118 (.dz false 117 (.c (.int .i64 201))),qF 119 0 11,oN (.store 1 119 118)]) (rR [0,4,5,7,8,9,10,11,12,13] [qF 120 1 11,qL 121 120,qF 122 1 14,qL 123 122,oQ 124 (.bin .add 123 (.c (.int .i64 1))),oQ 125 (.dz true 121 124),oQ 126 (.dz false 125 (.c (.int .i64 21))),qF 127 1 11,oN (.store 1 127 126)]))))) (rR [0,4,5,7,8,9,10,11,12,13] [qM 85 13,oQ 86 (.bin .add 85 (.c (.int .i64 1))),qM 13 86])))))) (.seq (rR [0,4,5,7,8,9,11,128] [qM 128 12]) (.cond 128 (.seq (rR [0,4,5,7,8] [
 qM 129 4,qM 130 9,qA 131 2 11,qI 132 2 129 130,oN (.store 2 132 131)]) (rR [0,4,5,7,8] [qM 133 5,oQ 134 (.bin .sub 133 (.c (.int .i64 1))),qM 5 134])) .skip))))))))) (rR [0,4,5,7,8] [qM 51 8,oQ 52 (.bin .add 51 (.c (.int .i64 1))),qM 8 52])))))) (.seq (rR [0,4,5,137] [qM 135 5,qM 136 7,oQ 137 (.bin .eql 135 136)]) (.cond 137 (.seq (rR [2,3] [oQ 2 (.mov (.c (.sl .full []))),oQ 3 (.mov (.c (.bool false)))]) .ret) .skip)))))))) (.seq (rR [2,3] [qM 138 4,qM 2 138,oQ 3 (.mov (.c (.bool true)))]) .ret))))))
theorem ed(hn:vals.length<=139)(h:SP Tryz.prog true vals bs dZ [.slot 2,.slot 3] Q):AM.Sem Tryz.prog 161 vals bs Q:=
 oZ (keeps:=[(0,[0]),(1,[0,4]),(2,[0,4,5]),(3,[0,4,5,6]),(4,[0,4,5,6,27]),(6,[0,4,5,6,38]),(7,[0,4,5,6]),(5,[0,4,5,6]),(8,[0,4,5,42]),(9,[0,4,5,7]),(10,[0,4,5,7,8]),(11,[0,4,5,7,8,50]),(13,[0,4,5,7,8,9]),(14,[0,4,5,7,8,9,65]),(15,[0,4,5,7,8,9,10]),(16,[0,4,5,7,8,9,10,11]),(17,[0,4,5,7,8,9,10,11,12]),(18,[0,4,5,7,8,9,10,11,12,13]),(19,[0,4,5,7,8,9,10,11,12,13,84]),(21,[0,4,5,7,8,9,10,11,12,13,14]),(22,[0,4,5,7,8,9,10,11,12,13,14]),(23,[0,4,5,7,8,9,10,11,12,13,14]),(24,[0,4,5,7,8,9,10,11,12,13]),(20,[0,4,5,7,8,9,10,11,12,13]),(25,[0,4,5,7,8,9,11,128]),(26,[0,4,5,7,8]),(27,[0,4,5,7,8]),(12,[0,4,5,7,8]),(28,[0,4,5,137]),(29,[2,3]),(30,[2,3]),(1000000,[20,8018,8025,8048,8077])]) (solo:=[]) Tryz.func161 rfl hn h
def kF:RC:=
 (.seq (rR [0,1] [oQ 4 (.mov (.c (.sl .full []))),oQ 5 (.mov (.c (.int .i64 0)))]) (.seq (rR [0,1,6] [oQ 18 (.build [(.sl .full []),(.sl .full [])] []),oQ 19 (.box 18),qM 6 19]) (.seq (.seq (rR [0,1,6,7] [oQ 7 (.mov (.c (.int .i64 0)))]) (.block 0 (.loop (.seq (.seq (rR [0,1,6,7,23] [qM 20 7,qM 21 0,oQ 22 (.len false 21),oQ 23 (.bin .lss 20 22)]) (.cond 23 .skip (.exit 0))) (.seq (.block 1 (.seq (rR [0,1,6,7,8] [qM 26 6,qM 27 0,qM 28 7,qI 29 4 27 28,qA 30 4 29,oQ 31 (cF 159 [26,30]),qM 8 31]) (.seq (rR [0,1,6,7,8,9] [qM 32 6,qM 33 1,qM 34 7,qI 35 4 33 34,qA 36 4 35,oQ 37 (cF 159 [32,36]),qM 9 37]) (.seq (rR [0,1,6,7,42] [qM 38 6,qM 39 8,qM 40 9,oQ 41 (cF 160 [38,39,40]),oQ 42 (.un .not 41)]) (.cond 42 (.seq (rR [4,5] [oQ 4 (.mov (.c (.sl .full []))),oQ 5 (.mov (.c (.int .i64 13)))]) .ret) .skip))))) (rR [0,1,6,7] [qM 24 7,oQ 25 (.bin .add 24 (.c (.int .i64 1))),qM 7 25]))))))
 (.seq (rR [6,10,11] [qM 44 6,oQ 45 (cF 161 [44]),qM 43 45,oQ 46 (.ext 0 43),oQ 47 (.ext 1 43),qM 10 46,qM 11 47]) (.seq (.seq (rR [6,10,49] [qM 48 11,oQ 49 (.un .not 48)]) (.cond 49 (.seq (rR [4,5] [oQ 4 (.mov (.c (.sl .full []))),oQ 5 (.mov (.c (.int .i64 13)))]) .ret) .skip)) (.seq (rR [6,10,12] [oQ 12 (.mov (.c (.sl .full [])))]) (.seq (.seq (rR [6,10,12,13] [oQ 13 (.mov (.c (.int .i64 0)))]) (.block 2 (.loop (.seq (.seq (rR [6,10,12,13,56] [qM 50 13,qM 51 6,qK 52 51,qF 53 0 52,oQ 54 (.lod 1 false 1 53),oQ 55 (.len false 54),oQ 56 (.bin .lss 50 55)]) (.cond 56 .skip (.exit 2))) (.seq (.block 3 (.seq (rR [6,10,12,13,14] [qM 59 6,qK 60 59,qF 61 1 60,qL 62 61,qM 63 13,qI 64 1 62 63,qL 65 64,qM 14 65]) (.seq (.seq (.mult [6,10,12,13,14,94] [(0,qM 66 6),(0,qK 67 66),(0,qF 68 0 67),(0,qL 69 68),(0,qM 70 13),(0,qI 71 4 69 70),(0,qF 72 0 71),(0,qL 73 72),(0,oQ 74 (.bin .neq 73 (.c (.int .i64 1)))),(0,qM 75 74),(0,oG 76 75 false (.mov 6)),(0,oG 77 75 false (.mov 14)),(1,oG 78 75 false (cF 162 [76,77])),(0,oG 79 75 false (.bin .lss 78 (.c (.int .i64 0)))),(0,oG 80 75 false (.mov 79)),(0,oG 81 80 true (.mov 6)),(0,oG 82 80 true (.mov 14)),(0,oG 84 80 true (.mov 6)),(0,oG 85 80 true (.j8 84)),(0,oG 86 80 true (.aF 0 85)),(0,oG 87 80 true (.load false 1 86)),(0,oG 88 80 true (.mov 13)),(0,oG 89 80 true (.idx 4 87 88)),(0,oG 90 80 true (.aF 1 89)),(0,oG 91 80 true (.load false 1 90)),(2,oG 83 80 true (cF 163 [81,82])),(0,oG 92 80 true (.bin .eql 83 91)),(0,oG 93 75 false (.pick 80 92 (.c (.bool false)))),(0,oQ 94 (.pick 75 (.c (.bool true)) 93))])
 (.cond 94 (.exit 3) .skip)) (.seq (.seq (rR [6,10,12,13,14,108] [qM 95 10,qM 96 14,qI 97 2 95 96,qF 98 0 97,qL 99 98,oQ 100 (.bin .gtr 99 (.c (.int .i64 200))),qM 101 100,oG 102 101 false (.mov 10),oG 103 101 false (.mov 14),oG 104 101 false (.idx 2 102 103),oG 105 101 false (.aF 1 104),oG 106 101 false (.load false 1 105),oG 107 101 false (.bin .gtr 106 (.c (.int .i64 20))),oQ 108 (.pick 101 (.c (.bool true)) 107)]) (.cond 108 (.seq (rR [4,5] [oQ 4 (.mov (.c (.sl .full []))),oQ 5 (.mov (.c (.int .i64 6)))]) .ret) .skip)) (.seq (.both [6,10,12,13,15] [(0,qM 109 6),(0,qK 110 109),(0,qF 111 0 110),(0,qL 112 111),(0,qM 113 13),(0,qI 114 4 112 113),(0,qF 115 1 114),(0,qL 116 115),(0,qM 117 6),(0,qM 118 14)] [(0,oQ 15 (.box (.c (.agg [(.int .i64 0),(.int .i64 0),(.int .i64 0),(.str ⟨⟨[]⟩⟩),(.sl .full [])])))),(2,oQ 119 (cF 164 [117,118])),(0,oQ 120 (.build [(.int .i64 0),(.int .i64 0),(.int .i64 0),(.str ⟨⟨[]⟩⟩),(.sl .full [])] [(0,1,116),(1,4,119)])),(0,oN (.stn 1 5 15 120))] [
 (2,oQ 119 (cF 164 [117,118])),(0,oQ 15 (.box (.c (.agg [(.int .i64 0),(.int .i64 0),(.int .i64 0),(.str ⟨⟨[]⟩⟩),(.sl .full [])])))),(0,oQ 120 (.build [(.int .i64 0),(.int .i64 0),(.int .i64 0),(.str ⟨⟨[]⟩⟩),(.sl .full [])] [(0,1,116),(1,4,119)])),(0,oN (.stn 1 5 15 120))]) (.seq (rR [6,10,12,13,15,16] [oQ 16 (.mov (.c (.sl .full [])))]) (.seq (rR [6,10,12,13,15,16,17] [oQ 17 (.mov (.c (.int .i64 0)))]) (.seq (.block 4 (.loop (.seq (.seq (.reg true [6,10,12,13,15,16,17,134] [oQ 121 (.take 17),oQ 122 (.take 12),oQ 123 (.len false 122),oQ 124 (.bin .lss 121 123),oQ 125 (.take 124),oG 126 125 true (.take 12),oG 127 125 true (.take 17),oG 128 125 true (.idx 5 126 127),oG 129 125 true (.aF 0 128),oG 130 125 true (.load false 1 129),oG 131 125 true (.aF 0 15),oG 132 125 true (.load false 1 131),oG 133 125 true (.bin .lss 130 132),oQ 134 (.pick 125 133 (.c (.bool false)))])
 (.cond 134 .skip (.exit 4))) (.block 5 (rR [6,10,12,13,15,16,17] [qM 135 17,oQ 136 (.bin .add 135 (.c (.int .i64 1))),qM 17 136]))))) (.seq (rR [6,10,12,13,15,16,17] [qM 137 16,qM 138 12,qM 139 17,oQ 140 (.slc 5 138 none (some 139) none),oQ 141 (.append 5 137 140),qM 16 141]) (.seq (rR [6,10,12,13,16,17] [qM 142 16,qA 143 5 15,oQ 144 (.aM 5 [143]),oQ 145 (.append 5 142 144),qM 16 145]) (rR [6,10,12,13] [qM 146 16,qM 147 12,qM 148 17,oQ 149 (.slc 5 147 (some 148) none none),oQ 150 (.append 5 146 149),qM 12 150]))))))))))) (rR [6,10,12,13] [qM 57 13,oQ 58 (.bin .add 57 (.c (.int .i64 1))),qM 13 58])))))) (.seq (rR [4,5] [qM 151 12,qM 4 151,oQ 5 (.mov (.c (.int .i64 0)))]) .ret))))))))
theorem kU(hn:vals.length<=152)(h:SP Tryz.prog true vals bs kF [.slot 4,.slot 5] Q):AM.Sem Tryz.prog 142 vals bs Q:=
 oZ (keeps:=[(0,[0,1]),(1,[0,1,6]),(2,[0,1,6,7]),(3,[0,1,6,7,23]),(5,[0,1,6,7,8]),(6,[0,1,6,7,8,9]),(7,[0,1,6,7,42]),(8,[4,5]),(4,[0,1,6,7]),(9,[6,10,11]),(10,[6,10,49]),(11,[4,5]),(12,[6,10,12]),(13,[6,10,12,13]),(14,[6,10,12,13,56]),(16,[6,10,12,13,14]),(17,[6,10,12,13,14,94]),(18,[6,10,12,13,14,108]),(19,[4,5]),(20,[6,10,12,13,15]),(21,[6,10,12,13,15,16]),(22,[6,10,12,13,15,16,17]),(23,[6,10,12,13,15,16,17,134]),(24,[6,10,12,13,15,16,17]),(25,[6,10,12,13,15,16,17]),(26,[6,10,12,13,16,17]),(27,[6,10,12,13]),(15,[6,10,12,13]),(28,[4,5]),(1000000,[8054,9015]),(2000017,[0,1,2,3,4,5,6,7,8,9,10,11,12,13,14,15,16,18,19,20,21,22,23,24,25,17,26,27,28]),(3000017,[0,0,0,0,0,0,0,0,0,0,0,0,1,0,0,0,0,2,0,0,0,0,0,0,0,0,0,0,0]),(4000020,[12,10,0,1,2,3,4,5,6,7,8,9]),(5000020,[10,11,13]),(6000020,[12,11,13]),(3000020,[0,0,0,0,0,0,0,0,0,0,2,0,0,0])]) (solo:=[]) Tryz.func142 rfl hn h
def mG:RC:=
 (.seq (rR [0,1] [oQ 4 (.mov (.c (.sl .full []))),oQ 5 (.mov (.c (.int .i64 0)))]) (.seq (.seq (rR [0,1,6] [oQ 6 (.mov (.c (.int .i64 0)))]) (.block 0 (.loop (.seq (.seq (rR [0,1,6,11] [qM 8 6,qM 9 0,oQ 10 (.len false 9),oQ 11 (.bin .lss 8 10)]) (.cond 11 .skip (.exit 0))) (.seq (.block 1 (.seq (rR [0,1,6,19] [qM 14 0,qM 15 6,qI 16 4 14 15,qA 17 4 16,oQ 18 (cF 47 [17]),oQ 19 (.un .not 18)]) (.cond 19 (.seq (rR [4,5] [oQ 4 (.mov (.c (.sl .full []))),oQ 5 (.mov (.c (.int .i64 2)))]) .ret) .skip))) (rR [0,1,6] [qM 12 6,oQ 13 (.bin .add 12 (.c (.int .i64 1))),qM 6 13])))))) (.seq (.seq (rR [0,1,7] [oQ 7 (.mov (.c (.int .i64 0)))]) (.block 2 (.loop (.seq (.seq (rR [0,1,7,23] [qM 20 7,qM 21 1,oQ 22 (.len false 21),oQ 23 (.bin .lss 20 22)]) (.cond 23 .skip (.exit 2))) (.seq (.block 3 (.seq (rR [0,1,7,31] [qM 26 1,qM 27 7,qI 28 4 26 27,qA 29 4 28,oQ 30 (cF 47 [29]),oQ 31 (.un .not 30)])
 (.cond 31 (.seq (rR [4,5] [oQ 4 (.mov (.c (.sl .full []))),oQ 5 (.mov (.c (.int .i64 2)))]) .ret) .skip))) (rR [0,1,7] [qM 24 7,oQ 25 (.bin .add 24 (.c (.int .i64 1))),qM 7 25])))))) (.seq (.seq (rR [0,1,36] [qM 32 0,oQ 33 (.len false 32),qM 34 1,oQ 35 (.len false 34),oQ 36 (.bin .neq 33 35)]) (.cond 36 (.seq (rR [4,5] [oQ 4 (.mov (.c (.sl .full []))),oQ 5 (.mov (.c (.int .i64 9)))]) .ret) .skip)) (.seq (rR [4,5] [qM 37 0,qM 38 1,oQ 39 (cF 142 [37,38]),oQ 40 (.ext 0 39),oQ 41 (.ext 1 39),qM 4 40,qM 5 41]) .ret)))))
theorem mP(hn:vals.length<=42)(h:SP Tryz.prog true vals bs mG [.slot 4,.slot 5] Q):AM.Sem Tryz.prog 122 vals bs Q:=
 oZ (keeps:=[(0,[0,1]),(1,[0,1,6]),(2,[0,1,6,11]),(4,[0,1,6,19]),(5,[4,5]),(3,[0,1,6]),(6,[0,1,7]),(7,[0,1,7,23]),(9,[0,1,7,31]),(10,[4,5]),(8,[0,1,7]),(11,[0,1,36]),(12,[4,5]),(13,[4,5])]) (solo:=[]) Tryz.func122 rfl hn h
def kG:RC:=
 (.seq (rR [2,3] [oQ 2 (.box 0),oQ 3 (.box 1),oQ 4 (.mov (.c (.sl .full []))),oQ 5 (.mov (.c (.int .i64 0)))]) (.seq (rR [4,5] [qA 6 4 2,oQ 7 (.aM 4 [6]),qA 8 4 3,oQ 9 (.aM 4 [8]),oQ 10 (cF 122 [7,9]),oQ 11 (.ext 0 10),oQ 12 (.ext 1 10),qM 4 11,qM 5 12]) .ret))
theorem kV(hn:vals.length<=13)(h:SP Tryz.prog true vals bs kG [.slot 4,.slot 5] Q):AM.Sem Tryz.prog 95 vals bs Q:=
 oZ (keeps:=[(0,[2,3]),(1,[4,5])]) (solo:=[]) Tryz.func95 rfl hn h
def gZ:RC:=
 (.seq (rR [2,3] [oQ 2 (.box 0),oQ 3 (.box 1),oQ 4 (.mov (.c (.bool false)))]) (.seq (rR [6] [qA 8 4 2,qA 9 4 3,oQ 10 (cF 95 [8,9]),qM 7 10,oQ 11 (.ext 0 7),oQ 12 (.ext 1 7),qM 5 11,qM 6 12]) (.seq (rR [4] [qM 13 6,oQ 14 (.bin .eql 13 (.c (.int .i64 0))),qM 15 14,oG 16 15 false (.mov 6),oG 17 15 false (.bin .eql 16 (.c (.int .i64 6))),oQ 18 (.pick 15 (.c (.bool true)) 17),qM 4 18]) .ret)))
theorem ie(hn:vals.length<=19)(h:SP Tryz.prog true vals bs gZ [.slot 4] Q):AM.Sem Tryz.prog 68 vals bs Q:=
 oZ (keeps:=[(0,[2,3]),(1,[6]),(2,[4])]) (solo:=[]) Tryz.func68 rfl hn h
end Go.CK
namespace Go.CK
open Go.AM
structure Rg where
 nodes:List Nd
 cls:List Nat
def cV(p:Nat->Bool)(n:Nat):Option Nat:=(List.range n).find? p
theorem gO{p:Nat->Bool}{n:Nat}:cV p n=none↔∀j,j<n->p j=false:=by
 unfold cV;rw[List.find?_eq_none];simp only[zd,Bool.not_eq_true]
theorem oO{p:Nat->Bool}{n k:Nat}(h:cV p n=some k):k<n/\p k=true:=by
 unfold cV at h;exact⟨zd.1 (List.mem_of_find?_eq_some h),List.find?_some h⟩
theorem Bl{p:Nat->Bool}{n k:Nat}(h:k<n)(hp:p k=true)(hj:∀j,j<k->p j=false):cV p n=some k:=by
 cases hf:cV p n with
 |none=>rw[gO.1 hf k h] at hp;cases hp
 |some m=>
  obtain⟨h1,h2⟩:=oO hf;unfold cV at hf;rw[List.find?_range_eq_some] at hf
  by_cases e:m=k
  .rw [e]
  .by_cases hlt:m<k
   .rw [hj m hlt] at h2;cases h2
   .have:=hf.2.2 k (by omega)
    rw[hp] at this;cases this
def Rg.isV(g:Rg)(v:Int)(i:Nat):Bool:=match g.nodes[i]? with
 |some x=>decide (x.t.kind=1)&&decide (x.t.num=v)
 |none=>false
def Rg.isS(g:Rg)(c:Nat)(i:Nat):Bool:=match g.nodes[i]? with
 |some x=>decide (g.cls[i]? =some c)&&decide (¬x.t.kind=1)
 |none=>false
def Rg.shape(g:Rg)(c:Nat):Option Nat:=cV (g.isS c) g.nodes.length
def uo(v:Int):Option Int->Option Int
 |none=>some v
 |some w=>if v<w then some v else some w
def Rg.leN(g:Rg)(c:Nat):Nat->Option Int
 |0=>none
 |j+1=>match g.nodes[j]? with
  |none=>g.leN c j
  |some x=>if g.cls[j]? =some c/\x.t.kind=1 then uo x.t.num (g.leN c j) else g.leN c j
def Rg.le(g:Rg)(c:Nat):Option Int:=g.leN c g.nodes.length
abbrev Rg.R(g:Rg):Nat->Nat->Prop:=λk r=>g.cls[k]? =some r
structure RW(g:Rg):Prop where
 len:g.cls.length=g.nodes.length
 nds:Nds g.nodes
 idm:∀k r:Nat,g.cls[k]? =some r->g.cls[r]? =some r
section
variable{g:Rg}
theorem RW.lt(h:RW g){k r:Nat}(hk:g.R k r):k<g.nodes.length/\r<g.nodes.length:=by
 have h1:=(zB.1 hk).1;have h2:=(zB.1 (h.idm _ _ hk)).1;have:=h.len;omega
theorem RW.par(h:RW g):Par g.nodes g.R:=by
 refine⟨λk r hk=>h.lt hk,λk hk=>⟨_,zA (by rw[h.len];exact hk)⟩,λk r s h1 h2=>?_,λk r hk=>h.idm k r hk⟩
 have h1:g.cls[k]? =some r:=h1;have h2:g.cls[k]? =some s:=h2;rw[h1] at h2;cases h2;rfl
theorem Ib{c i:Nat}:g.isS c i=true↔∃x:Nd,g.nodes[i]? =some x/\¬x.t.kind=1/\g.R i c:=by
 unfold Rg.isS
 cases hx:g.nodes[i]? with
 |none=>simp
 |some x=>
  simp only[zD,decide_eq_true_eq,zN];constructor
  .rintro ⟨h1,h2⟩;exact⟨x,rfl,h2,h1⟩
  .rintro ⟨y,rfl,h1,h2⟩;exact⟨h2,h1⟩
theorem Ia{v:Int}{i:Nat}:g.isV v i=true↔∃x:Nd,g.nodes[i]? =some x/\x.t.kind=1/\x.t.num=v:=by
 unfold Rg.isV
 cases hx:g.nodes[i]? with
 |none=>simp
 |some x=>
  simp only[zD,decide_eq_true_eq,zN];constructor
  .rintro ⟨h1,h2⟩;exact⟨x,rfl,h1,h2⟩
  .rintro ⟨y,rfl,h1,h2⟩;exact⟨h1,h2⟩
theorem dv:nz g.nodes g.R g.shape:=λr _=>⟨λk hk=>by
 exact Ib.1 (oO hk).2,λhn k x hx hk=>by
 have:=gO.1 hn k (zB.1 hx).1
 exact Decidable.byContradiction λe=>by
  have h2:=Ib.2 ⟨x,hx,e,hk⟩;rw[this] at h2;cases h2⟩
theorem Lc(h:∀(i:Nat) (x:Nd),g.nodes[i]? =some x->x.t.form=true)(c:Nat):∀n:Nat,(∀w,g.leN c n=some w->(∃(k:Nat) (x:Nd),k<n/\g.nodes[k]? =some x/\x.t=bc w/\g.R k c)/\∀(k:Nat) (x:Nd),k<n->g.nodes[k]? =some x->g.R k c->x.t.kind=1->w<=x.t.num)/\(g.leN c n=none->∀(k:Nat) (x:Nd),k<n->g.nodes[k]? =some x->g.R k c->¬x.t.kind=1)
 |0=>⟨λw hw=>(by cases hw),λ_ k x hk=>by omega⟩
 |n+1=>by
  obtain⟨h1,h2⟩:=Lc h c n
  have hstep:∀{P:Nat->Prop},(∀k,k<n->P k)->P n->∀k,k<n+1->P k:=λ{P} a b k hk=>by
   by_cases e:k=n
   .rw [e];exact b
   .exact a k (by omega)
  rw[Rg.leN]
  cases hx:g.nodes[n]? with
  |none=>
   simp only;refine⟨λw hw=>?_,λhn=>?_⟩
   .obtain ⟨⟨k,x,q1,q2,q3,q4⟩,q5⟩:=h1 w hw;refine⟨⟨k,x,by omega,q2,q3,q4⟩,λk x hk hx'=>?_⟩
    by_cases e:k=n
    .subst e;rw[hx] at hx';cases hx'
    .exact q5 k x (by omega) hx'
   .intro k x hk hx'
    by_cases e:k=n
    .subst e;rw[hx] at hx';cases hx'
    .exact h2 hn k x (by omega) hx'
  |some x=>
   simp only
   by_cases hc:g.cls[n]? =some c/\x.t.kind=1
   .rw [if_pos hc];have hxv:x.t=bc x.t.num:=lr (fX _ (h n x hx)) hc.2
    cases hl:g.leN c n with
    |none=>
     simp only[uo,zN];refine⟨λw hw=>?_,λhn=>by cases hn⟩
     subst hw;refine⟨⟨n,x,by omega,hx,hxv,hc.1⟩,λk y hk hy hkc hk1=>?_⟩
     by_cases e:k=n
     .subst e;rw[hx] at hy;cases hy;exact Int.le_refl _
     .exact absurd hk1 (h2 hl k y (by omega) hy hkc)
    |some w0=>
     obtain⟨⟨k0,x0,q1,q2,q3,q4⟩,q5⟩:=h1 w0 hl
     by_cases hlt:x.t.num<w0
     .simp only[uo,if_pos hlt,zN];refine⟨λw hw=>?_,λhn=>by cases hn⟩
      subst hw;refine⟨⟨n,x,by omega,hx,hxv,hc.1⟩,λk y hk hy hkc hk1=>?_⟩
      by_cases e:k=n
      .subst e;rw[hx] at hy;cases hy;exact Int.le_refl _
      .have:=q5 k y (by omega) hy hkc hk1;omega
     .simp only[uo,if_neg hlt,zN];refine⟨λw hw=>?_,λhn=>by cases hn⟩
      subst hw;refine⟨⟨k0,x0,by omega,q2,q3,q4⟩,λk y hk hy hkc hk1=>?_⟩
      by_cases e:k=n
      .subst e;rw[hx] at hy;cases hy;omega
      .exact q5 k y (by omega) hy hkc hk1
   .rw [if_neg hc];refine⟨λw hw=>?_,λhn=>?_⟩
    .obtain ⟨⟨k,y,q1,q2,q3,q4⟩,q5⟩:=h1 w hw;refine⟨⟨k,y,by omega,q2,q3,q4⟩,λk y hk hy hkc hk1=>?_⟩
     by_cases e:k=n
     .subst e;rw[hx] at hy;cases hy;exact absurd ⟨hkc,hk1⟩ hc
     .exact q5 k y (by omega) hy hkc hk1
    .intro k y hk hy hkc hk1
     by_cases e:k=n
     .subst e;rw[hx] at hy;cases hy;exact absurd ⟨hkc,hk1⟩ hc
     .exact h2 hn k y (by omega) hy hkc hk1
theorem EB(h:RW g):nA g.nodes g.R g.le:=λr _=>by
 obtain⟨h1,h2⟩:=Lc h.nds.frm r g.nodes.length;refine⟨λw hw=>?_,λhn k x hx=>h2 hn k x (zB.1 hx).1 hx⟩;obtain⟨⟨k,x,q1,q2,q3,q4⟩,q5⟩:=h1 w hw;exact⟨⟨k,x,q2,q3,q4⟩,λk x hx=>q5 k x (zB.1 hx).1 hx⟩
end
def lq(g:Rg)(t:Tm)(l:List Nat):Rg:=⟨g.nodes++[⟨t,l⟩],g.cls++[g.nodes.length]⟩
mutual
def bG:Rg->Tm->Rg×Nat
 |g,.mk k n s l=>match (if k=1 then cV (g.isV n) g.nodes.length else none) with
  |some i=>(g,i)
  |none=>(lq (bA g l).1 (.mk k n s l) (bA g l).2,(bA g l).1.nodes.length)
def bA:Rg->List Tm->Rg×List Nat
 |g,[]=>(g,[])
 |g,t::r=>((bA (bG g t).1 r).1,(bG g t).2::(bA (bG g t).1 r).2)
end
theorem E5{g:Rg}{t:Tm}{i:Nat}(h1:t.kind=1)(h2:cV (g.isV t.num) g.nodes.length=some i):bG g t=(g,i):=by
 obtain⟨k,n,s,l⟩:=t;simp only[Tm.kind,Tm.num] at h1 h2;rw[bG,if_pos h1,h2]
theorem xq{g:Rg}{t:Tm}(h:t.kind=1->cV (g.isV t.num) g.nodes.length=none):bG g t=(lq (bA g t.args).1 t (bA g t.args).2,(bA g t.args).1.nodes.length):=by
 obtain⟨k,n,s,l⟩:=t;simp only[Tm.kind,Tm.num] at h;rw[bG]
 have:(if k=1 then cV (g.isV n) g.nodes.length else none)=none:=by
  split
  .exact h ‹_›
  .rfl
 rw[this];rfl
theorem tJ:∀(g:Rg) (l:List Tm) (t:Tm),bA g (l++[t])=((bG (bA g l).1 t).1,(bA g l).2++[(bG (bA g l).1 t).2])
 |g,[],t=>by simp only[Zo,bA]
 |g,x::l,t=>by simp only[ze,bA,tJ (bG g x).1 l t]
mutual
theorem oS:∀(g:Rg) (t:Tm),(bG g t).1.nodes.length<=g.nodes.length+t.nodes/\(bG g t).1.cls.length<=g.cls.length+t.nodes
 |g,.mk k n s l=>by
  have:=ma g l;rw[bG];split
  .dsimp only;omega
  .simp only[lq,zC,zU,Tm.nodes];omega
theorem ma:∀(g:Rg) (l:List Tm),(bA g l).1.nodes.length<=g.nodes.length+Tm.aj l/\(bA g l).1.cls.length<=g.cls.length+Tm.aj l
 |g,[]=>⟨zG _,zG _⟩
 |g,t::r=>by
  have h1:=oS g t;have h2:=ma (bG g t).1 r;simp only[bA,Tm.aj];omega
end
theorem tK:∀(g:Rg) (l:List Tm),(bA g l).2.length=l.length
 |g,[]=>rfl
 |g,t::r=>by simp only[bA,zX,tK (bG g t).1 r]
structure xX(g g':Rg):Prop where
 gw:RW g'
 cl:aK g'.nodes g'.R []
 old:∀(j:Nat) (x:Nd),g.nodes[j]? =some x->g'.nodes[j]? =some x
 sat:∀σ,Sat g'.nodes g'.R [] σ↔Sat g.nodes g.R [] σ
theorem xX.trans{a b c:Rg}(h:xX a b)(k:xX b c):xX a c:=⟨k.gw,k.cl,λj x hx=>k.old j x (h.old j x hx),λσ=>(k.sat σ).trans (h.sat σ)⟩
theorem Lz{g:Rg}{t:Tm}{l:List Nat}(h:RW g)(hc:aK g.nodes g.R [])(hf:t.form=true)(hl:l.length=t.args.length)(hk:∀(j c:Nat) (y:Tm),l[j]? =some c->t.args[j]? =some y->∃z:Nd,g.nodes[c]? =some z/\z.t=y)(hv:t.kind=1->cV (g.isV t.num) g.nodes.length=none):xX g (lq g t l):=by
 obtain⟨n,hn⟩:∃n,n=g.nodes.length:=⟨_,rfl⟩;have hlen:=h.len
 have hRR:∀k r,(lq g t l).R k r↔g.R k r\/(k=n/\r=n):=λk r=>by
  show (g.cls++[g.nodes.length])[k]? =some r↔g.cls[k]? =some r\/_
  by_cases hkl:k<g.cls.length
  .rw [zK hkl];exact⟨.inl,λe=>e.elim id λe=>by omega⟩
  .rw [zZ (by omega)]
   by_cases hkn:k=n
   .subst hkn;rw[show k-g.cls.length=0 by omega]
    simp only[Zs,zN,true_and];constructor
    .intro e;right;omega
    .rintro (e|e)
     .have:=(zB.1 e).1;omega
     .omega
   .constructor
    .intro e;have:=(zB.1 e).1;simp only[zU] at this;omega
    .rintro (e|e)
     .have:=(zB.1 e).1;omega
     .omega
 have hnd:(lq g t l).nodes=g.nodes++[⟨t,l⟩]:=rfl
 have hold:∀(j:Nat) (x:Nd),g.nodes[j]? =some x->(lq g t l).nodes[j]? =some x:=λj x hx=>by
  rw[hnd,zK (zB.1 hx).1];exact hx
 have hnew:(lq g t l).nodes[n]? =some ⟨t,l⟩:=by rw[hnd,hn];simp
 have hcase:∀(j:Nat) (x:Nd),(lq g t l).nodes[j]? =some x->g.nodes[j]? =some x\/(j=n/\x=⟨t,l⟩):=λj x hx=>by
  rw[hnd] at hx
  by_cases hj:j<g.nodes.length
  .rw [zK hj] at hx;exact .inl hx
  .have hj2:=(zB.1 hx).1;rw[zC,zU] at hj2;obtain rfl:j=n:=by omega
   rw[hn] at hx;simp at hx;exact .inr ⟨rfl,hx.symm⟩
 have hp:=h.par;have hRn:∀k,g.R k n->False:=λk hk=>by have:=h.lt hk;omega
 have hRn2:∀r,g.R n r->False:=λk hk=>by have:=h.lt hk;omega
 have hin:∀k r,g.R r r->(lq g t l).R k r->g.R k r:=λk r hr hkr=>by
  rcases(hRR k r).1 hkr with h1|⟨_,h1⟩
  .exact h1
  .subst h1;exact(hRn _ hr).elim
 have hinn:∀k,(lq g t l).R k n->k=n:=λk hkr=>by
  rcases(hRR k n).1 hkr with h1|⟨h1,_⟩
  .exact (hRn _ h1).elim
  .exact h1
 have hvar:t.kind=1->t=bc t.num:=lr (fX t hf)
 have hnds:Nds (lq g t l).nodes:=by
  refine⟨λi x hx=>?_,λi x hx=>?_,λi x hx j c y h1 h2=>?_,λi j x y hx hy hx1 hxy=>?_⟩
  .rcases hcase i x hx with h1|⟨_,rfl⟩
   .exact h.nds.frm i x h1
   .exact hf
  .rcases hcase i x hx with h1|⟨_,rfl⟩
   .exact h.nds.len i x h1
   .exact hl
  .rcases hcase i x hx with h3|⟨_,rfl⟩
   .obtain ⟨z,h4,h5⟩:=h.nds.kid i x h3 j c y h1 h2;exact⟨z,hold _ _ h4,h5⟩
   .obtain ⟨z,h4,h5⟩:=hk j c y h1 h2;exact⟨z,hold _ _ h4,h5⟩
  .have hno:∀(i:Nat) (x:Nd),g.nodes[i]? =some x->x.t=t->t.kind=1->False:=λi x hx e h1=>by
    have h2:=gO.1 (hv h1) i (zB.1 hx).1;rw[Ia.2 ⟨x,hx,by rw[e];exact h1,by rw[e]⟩] at h2;cases h2
   rcases hcase i x hx with h1|⟨h1,rfl⟩<;>rcases hcase j y hy with h2|⟨h2,rfl⟩
   .exact h.nds.one i j x y h1 h2 hx1 hxy
   .exact (hno i x h1 hxy (by have e:x.t=t:=hxy;rw[<-e];exact hx1)).elim
   .exact (hno j y h2 hxy.symm hx1).elim
   .omega
 have hgw:RW (lq g t l):=by
  refine⟨?_,hnds,λk r hk=>?_⟩
  .show (g.cls++[g.nodes.length]).length=(g.nodes++[_]).length;rw[zC,zC,hlen];rfl
  .rcases (hRR k r).1 hk with h1|⟨h1,h2⟩
   .exact (hRR r r).2 (.inl (h.idm k r h1))
   .subst h2;exact(hRR r r).2 (.inr ⟨rfl,rfl⟩)
 refine⟨hgw,λi k r x y hx hy hx1 hy1 hi hk=>?_,hold,λσ=>?_⟩
 .have hcl:∀c d,Cl g.R [] c d->Cl (lq g t l).R [] c d:=λc d hcd=>Cl.map (rt:=g.R) (rt':=(lq g t l).R) (ps:=[]) (ps':=[]) (λc d r h1 h2=>.cls ((hRR _ _).2 (.inl h1)) ((hRR _ _).2 (.inl h2))) (λc d hm=>by cases hm) hcd
  rcases hcase i x hx with h1|⟨h1,rfl⟩
  .have hri:g.R i r:=by
    rcases(hRR _ _).1 hi with h2|⟨h2,_⟩
    .exact h2
    .subst h2;have:=(zB.1 h1).1;omega
   have hrk:=hin k r (hp.idem _ _ hri) hk;rcases hcase k y hy with h2|⟨h2,_⟩
   .exact (hc i k r x y h1 h2 hx1 hy1 hri hrk).mono hcl
   .subst h2;exact(hRn2 _ hrk).elim
  .subst h1
   have hrn:r=i:=by
    rcases(hRR _ _).1 hi with h2|⟨_,h2⟩
    .exact (hRn2 _ h2).elim
    .exact h2
   subst hrn;have:=hinn k hk;subst this;rw[hnew] at hy;cases hy;refine⟨bF.2 ⟨rfl,rfl,rfl,rfl⟩,λj c d h1 h2=>?_⟩;rw[h1] at h2;cases h2;obtain⟨s,hs⟩:=hgw.par.tot c (fh hnds hnew h1);exact .cls hs hs
 .constructor
  .rintro ⟨h1,_⟩;refine⟨λk r hkr=>?_,λp hp=>by cases hp⟩
   have:=h1 k r ((hRR _ _).2 (.inl hkr));have hlt:=hp.lt _ _ hkr;rw[hnd,kq hlt.1,kq hlt.2] at this;exact this
  .rintro ⟨h1,_⟩;refine⟨λk r hkr=>?_,λp hp=>by cases hp⟩
   rcases(hRR _ _).1 hkr with h2|⟨h2,h3⟩
   .have hlt:=hp.lt _ _ h2;rw[hnd,kq hlt.1,kq hlt.2];exact h1 k r h2
   .rw [h2,h3]
mutual
theorem oT:∀{g:Rg} (t:Tm),RW g->aK g.nodes g.R []->t.form=true->xX g (bG g t).1/\∃x:Nd,(bG g t).1.nodes[(bG g t).2]? =some x/\x.t=t
 |g,.mk k n s l,h,hc,hf=>by
  by_cases hold:k=1/\∃i,cV (g.isV n) g.nodes.length=some i
  .obtain ⟨hk,i,hi⟩:=hold;rw[E5 (t:=.mk k n s l) hk hi];refine⟨⟨h,hc,λj x hx=>hx,λσ=>Iff.rfl⟩,?_⟩;obtain⟨x,hx,hx1,hx2⟩:=Ia.1 (oO hi).2;refine⟨x,hx,?_⟩;rw[lr (fX _ (h.nds.frm _ _ hx)) hx1,hx2];exact(lr (fX _ hf) hk).symm
  .have hnew:(Tm.mk k n s l).kind=1->cV (g.isV (Tm.mk k n s l).num) g.nodes.length=none:=λhk=>by
    cases hl:cV (g.isV (Tm.mk k n s l).num) g.nodes.length with
    |none=>rfl
    |some i=>exact absurd ⟨hk,i,hl⟩ hold
   rw[xq hnew];have hfl:=l8 hf;obtain⟨a1,a2,a3⟩:=E7 l h hc hfl
   have hv:(Tm.mk k n s l).kind=1->cV ((bA g l).1.isV (Tm.mk k n s l).num) (bA g l).1.nodes.length=none:=λhk=>by
    have hl:l=[]:=(jO hf hk).2.2;subst hl;rw[bA];exact hnew hk
   have b:=Lz (t:=.mk k n s l) (l:=(bA g l).2) a1.gw a1.cl hf a2 a3 hv;exact⟨a1.trans b,⟨.mk k n s l,(bA g l).2⟩,List.getElem?_concat_length,rfl⟩
theorem E7:∀{g:Rg} (l:List Tm),RW g->aK g.nodes g.R []->Tm.cd l=true->xX g (bA g l).1/\(bA g l).2.length=l.length/\∀(j c:Nat) (y:Tm),(bA g l).2[j]? =some c->l[j]? =some y->∃z:Nd,(bA g l).1.nodes[c]? =some z/\z.t=y
 |g,[],h,hc,_=>⟨⟨h,hc,λj x hx=>hx,λσ=>Iff.rfl⟩,rfl,λj c y h1 h2=>by simp at h2⟩
 |g,t::r,h,hc,hf=>by
  simp only[Tm.cd,zD] at hf;obtain⟨a1,x,a2,a3⟩:=oT t h hc hf.1;obtain⟨b1,b2,b3⟩:=E7 r a1.gw a1.cl hf.2;simp only[bA];refine⟨a1.trans b1,by simp only[zX,b2],λj c y h1 h2=>?_⟩
  cases j with
  |zero=>
   simp at h1 h2;subst h1;subst h2
   exact⟨x,b1.old _ _ a2,a3⟩
  |succ j=>exact b3 j c y (by simpa using h1) (by simpa using h2)
end
end Go.CK
