/-
  Texts of this aV joined (wip/gen/bundle.py),those declarations only that are needed:RcIxb IxM IxO IxP. By an AI agent.
-/
import Derived.Test.YtcjfkbdbcgmomaaGreatDoorSaz
set_option linter.unusedSimpArgs false
set_option linter.unusedVariables false
set_option maxRecDepth 100000
namespace Go.CK
open Go.AM Go.Proofs
variable{ae:List AV}{bs:List Box}{Q:AV->List Box->Prop}
def xV:RC:=
 (.seq (rR [1,2] [oQ 1 (.box 0),oQ 2 (.box (.c (.agg [(.int .i64 0),(.str ⟨⟨[]⟩⟩),(.sl .full [])])))]) (.seq (rR [1,2] [qF 3 1 1,qF 4 1 3,qL 5 4,oQ 6 (.build [(.int .i64 0),(.int .i64 0),(.str ⟨⟨[]⟩⟩),(.sl .full [])] [(3,1,5)]),oQ 7 (cF 96 [6]),oQ 8 (.fld false 3 1 7),qF 9 1 1,qF 10 1 9,oN (.store 1 10 8)]) (.seq (rR [2] [qA 11 3 1,oN (.store 3 2 11)]) .ret)))
theorem x8(hn:ae.length<=12)(h:SP Tryz.prog true ae bs xV [.cell 2 true 3] Q):AM.Sem Tryz.prog 45 ae bs Q:=
 oZ (keeps:=[(0,[1,2]),(1,[1,2]),(2,[2])]) (solo:=[]) Tryz.func45 rfl hn h
def rW:RC:=
 (.seq (rR [1,2] [oQ 1 (.box 0),oQ 2 (.box (.c (.agg [(.int .i64 0),(.int .i64 0),(.str ⟨⟨[]⟩⟩),(.sl .full [])])))]) (.seq (rR [1,2] [qF 5 3 1,qL 6 5,oQ 7 (cF 150 [6]),qF 8 3 1,oN (.store 1 8 7)]) (.seq (.seq (rR [1,2,10,11,12] [qF 9 3 1,qL 10 9,oQ 11 (.len false 10),oQ 12 (.mov (.c (.int .i64 0)))]) (.block 0 (.loop (.seq (rR [1,2,10,11,12,13] [oQ 13 (.bin .lss 12 11)]) (.seq (.cond 13 .skip (.exit 0)) (.seq (.block 1 (.seq (rR [1,2,3,4,10,11,12] [qM 14 12,qI 15 4 10 12,qA 16 4 15,oQ 4 (.box (.c (.agg [(.int .i64 0),(.int .i64 0),(.str ⟨⟨[]⟩⟩),(.sl .full [])]))),qM 3 14,oN (.store 4 4 16)]) (.mult [1,2,10,11,12] [(0,qF 17 3 1),(0,qL 18 17),(0,qM 19 3),(0,qA 20 4 4),(0,oQ 21 (cF 96 [20])),(0,qI 22 4 18 19),(1,oN (.store 4 22 21))]))) (rR [1,2,10,11,12] [oQ 23 (.bin .add 12 (.c (.int .i64 1))),qM 12 23]))))))) (.seq (rR [2] [
 qA 24 4 1,oN (.store 4 2 24)]) .ret))))
theorem rZ(hn:ae.length<=25)(h:SP Tryz.prog true ae bs rW [.cell 2 true 4] Q):AM.Sem Tryz.prog 96 ae bs Q:=
 oZ (keeps:=[(0,[1,2]),(1,[1,2]),(2,[1,2,10,11,12]),(3,[1,2,10,11,12,13]),(4,[1,2,3,4,10,11,12]),(5,[1,2,10,11,12]),(6,[1,2,10,11,12]),(7,[2]),(2000005,[0,1,2,3,4,5,6]),(3000005,[0,0,0,0,0,0,1])]) (solo:=[]) Tryz.func96 rfl hn h
def mM:RC:=
 (.seq (rR [2,3] [oQ 2 (.box 0),oQ 3 (.box 1),oQ 4 (.mov (.c .nfn))]) (.seq (rR [4] [oQ 5 (.sd (.func 108) [] [2,3]),qM 4 5]) .ret))
def kE:RC:=
 (.seq (rR [0,2,12,13,14] [qL 9 1,qK 10 9,qF 11 0 10,qL 12 11,oQ 13 (.len false 12),oQ 14 (.mov (.c (.int .i64 0)))]) (.block 0 (.loop (.seq (rR [0,2,12,13,14,15] [oQ 15 (.bin .lss 14 13)]) (.seq (.cond 15 .skip (.exit 0)) (.seq (.block 1 (.seq (rR [0,2,4,5,12,13,14] [qM 16 14,qI 17 3 12 14,qA 18 3 17,oQ 5 (.box (.c (.agg [(.str ⟨⟨[]⟩⟩),(.int .i64 0),(.sl .full [])]))),qM 4 16,oN (.store 3 5 18)]) (.seq (.seq (rR [0,2,4,5,12,13,14,31] [qF 19 0 5,qL 20 19,qF 21 0 2,qL 22 21,oQ 23 (.bin .neq 20 22),qM 24 23,oG 25 24 false (.bn 1 5),oG 26 24 false (.load false 1 25),oG 27 24 false (.bn 1 2),oG 28 24 false (.load false 1 27),oG 29 24 false (.len false 28),oG 30 24 false (.bin .neq 26 29),oQ 31 (.pick 24 (.c (.bool true)) 30)]) (.cond 31 (.exit 1) .skip)) (.seq (rR [0,2,4,5,6,12,13,14] [oQ 6 (.mov (.c (.sl .full [])))]) (.seq (.seq
 (rR [0,2,4,6,12,13,14,33,34,35] [qF 32 2 5,qL 33 32,oQ 34 (.len false 33),oQ 35 (.mov (.c (.int .i64 0)))]) (.block 2 (.loop (.seq (rR [0,2,4,6,12,13,14,33,34,35,36] [oQ 36 (.bin .lss 35 34)]) (.seq (.cond 36 .skip (.exit 2)) (.seq (.block 3 (.seq (rR [0,2,4,6,8,12,13,14,33,34,35] [qI 37 1 33 35,qL 38 37,qM 8 38]) (rR [0,2,4,6,12,13,14,33,34,35] [qM 39 6,qF 40 1 2,qL 41 40,qM 42 8,qI 43 4 41 42,qA 44 4 43,oQ 45 (.aZ 4 [44]),oQ 46 (.append 4 39 45),qM 6 46]))) (rR [0,2,4,6,12,13,14,33,34,35] [oQ 47 (.bin .add 35 (.c (.int .i64 1))),qM 35 47]))))))) (.seq (rR [0,2,12,13,14,53] [qM 48 0,qM 49 4,qM 50 6,oQ 51 (cF 47 [50]),oQ 52 (.dP 48 [49,51]),oQ 53 (.un .not 52)]) (.cond 53 .ret .skip))))))) (rR [0,2,12,13,14] [oQ 54 (.bin .add 14 (.c (.int .i64 1))),qM 14 54])))))))
def lM:RC:=
 (.seq (rR [2,3] [oQ 2 (.box 0),oQ 3 (.box 1)]) (.seq (rR [2,3,12] [qL 9 2,qF 10 1 3,qA 11 2 10,oQ 12 (cF 53 [9,11])]) (.block 0 (.range 12 [13,14] (.seq (rR [2,3,4,14] [qM 4 13]) (rR [2,3,4,5] [qM 5 14])) (.block 1 (.seq (rR [2,3,4,5,6] [qL 15 2,qK 16 15,qF 17 2 16,qL 18 17,qM 19 4,qI 20 1 18 19,qL 21 20,qM 22 5,oQ 23 (.eff (.tab .get) [21,22]),qM 6 23]) (.seq (rR [2,3,4,5,6,7] [qM 25 6,qF 26 0 3,qL 27 26,oQ 28 (cF 105 [25,27]),qM 24 28,oQ 29 (.ext 0 24),oQ 30 (.ext 1 24),qM 7 29,qM 8 30]) (.mult [] [(0,qL 31 2),(0,qK 32 31),(0,qF 33 2 32),(0,qL 34 33),(0,qM 35 4),(0,qI 36 1 34 35),(0,qL 37 36),(0,qM 38 5),(0,qM 39 6),(0,qM 40 7),(0,qF 41 0 3),(0,qL 42 41),(2,oQ 43 (.eff (.bsR 1) [42])),(2,oQ 44 (cF 106 [39,40,43])),(1,oN (.eff (.tab .put) [37,38,44]))]))))))))
def mN:RC:=
 (.seq (rR [0,1] [oQ 4 (.mov (.c (.int .i64 0))),oQ 5 (.mov (.c (.bool false)))]) (.seq (rR [4,5] [qM 6 0,qK 7 6,qF 8 1 7,qL 9 8,qM 10 1,oQ 11 (cF 99 [9,10,(.c (.fn (.func 100) [] []))]),oQ 12 (.ext 0 11),oQ 13 (.ext 1 11),qM 4 12,qM 5 13]) .ret))
def kF:RC:=
 (.seq (rR [1,2] [oQ 2 (.box 0),oQ 4 (.mov (.c (.int .i64 0)))]) (.seq (rR [4] [qF 5 0 2,qL 6 5,qM 7 1,oQ 8 (cF 101 [6,7]),qM 4 8]) .ret))
theorem kS(hn:ae.length<=9)(h:SP Tryz.prog true ae bs kF [.slot 4] Q):AM.Sem Tryz.prog 100 ae bs Q:=
 oZ (keeps:=[(0,[1,2]),(1,[4])]) (solo:=[]) Tryz.func100 rfl hn h
def kG:RC:=
 (.seq (rR [0,3] [oQ 3 (.box 1),oQ 4 (.mov (.c (.int .i64 0)))]) (.seq (.seq (rR [0,3,8] [qM 7 0,oQ 8 (.more (.eqP false) [7,(.c .cU)])]) (.cond 8 (.seq (rR [4] [oQ 4 (.mov (.c (.int .i64 1)))]) .ret) .skip)) (.seq (rR [0,3,5,6] [qM 10 0,qF 11 0 3,qL 12 11,oQ 13 (cF 48 [10,12]),qM 9 13,oQ 14 (.ext 0 9),oQ 15 (.ext 1 9),qM 5 14,qM 6 15]) (.seq (.block 0 (.seq (rR [0,3,5,6,16] [qF 17 0 3,qL 18 17,oQ 19 (.bin .lss 18 (.c (.int .i64 1))),qM 20 19,oG 21 20 false (.bn 1 3),oG 22 20 false (.load true 2 21),oG 23 20 false (cF 49 [22]),oG 24 20 false (.un .not 23),oQ 25 (.pick 20 (.c (.bool true)) 24),qM 16 25]) (.cond 16 (.seq (rR [4] [oQ 4 (.mov (.c (.int .i64 2)))]) .ret) (.seq (rR [0,3,5,26] [qM 27 6,qM 26 27]) (.cond 26 (.seq (rR [4] [oQ 4 (.mov (.c (.int .i64 8)))]) .ret) (.seq (rR [0,3,5,28] [qM 29 0,qK 30 29,qF 31 1 30,qL 32 31,oQ 33 (.len false 32),oQ 34 (.bin .geq 33 (.c (.int .i64 500))),qM 28 34])
 (.cond 28 (.seq (rR [4] [oQ 4 (.mov (.c (.int .i64 6)))]) .ret) .skip))))))) (.seq (rR [0,3,5] [qA 35 3 3,oQ 36 (cF 45 [35]),oN (.store 3 3 36)]) (.seq (.mult [0,3] [(0,qM 37 0),(0,qM 38 0),(0,qK 39 38),(0,qF 40 1 39),(0,qL 41 40),(0,qM 42 5),(0,qA 43 3 3),(2,oQ 44 (.eff (.bsR 3) [43])),(2,oQ 45 (cF 50 [41,42,44])),(0,qK 46 37),(0,qF 47 1 46),(1,oN (.store 1 47 45))]) (.seq (rR [] [qM 48 0,qA 49 3 3,oQ 50 (cF 51 [48,49])]) (.seq (rR [4] [oQ 4 (.mov (.c (.int .i64 0)))]) .ret))))))))
def kH:RC:=
 (.seq (rR [2,3,4] [oQ 2 (.box 0),oQ 3 (.box 1),oQ 4 (.mov (.c (.bool false)))]) (.seq (.seq (rR [2,3,4,11] [qL 10 2,oQ 11 (.more (.eqP false) [10,(.c .cU)])]) (.cond 11 (.seq (rR [4] [oQ 4 (.mov (.c (.bool false)))]) .ret) .skip)) (.seq (rR [2,3,4,5,6] [qL 13 2,qL 14 3,oQ 15 (cF 48 [13,14]),qM 12 15,oQ 16 (.ext 0 12),oQ 17 (.ext 1 12),qM 5 16,qM 6 17]) (.seq (.seq (rR [2,3,4,5,19] [qM 18 6,oQ 19 (.un .not 18)]) (.cond 19 (.seq (rR [4] [oQ 4 (.mov (.c (.bool false)))]) .ret) .skip)) (.seq (.seq (.mult [2,3,4,5,29] [(0,qL 20 2),(0,qL 21 2),(0,qK 22 21),(0,qF 23 1 22),(0,qL 24 23),(0,qM 25 5),(0,qI 26 3 24 25),(0,qF 27 1 26),(0,qA 28 2 27),(1,oQ 29 (cF 53 [20,28]))]) (.block 0 (.range 29 [30,31] (.seq (rR [2,3,7,31] [qM 7 30]) (rR [2,3,7,8] [qM 8 31])) (.block 1 (.seq (rR [2,7,8,9] [qL 32 2,qK 33 32,qF 34 2 33,qL 35 34,qM 36 7,qI 37 1 35 36,qL 38 37,qM 39 8,oQ 40 (.eff (.tab .get) [38,39]),oQ 41 (.sd (.func 55) [] [3]),oQ 42 (cF 54 [40,41]),qM 9 42])
 (.seq (rR [2,7,8,9,45] [qM 43 9,oQ 44 (.len false 43),oQ 45 (.bin .eql 44 (.c (.int .i64 0)))]) (.cond 45 (rR [] [qL 46 2,qK 47 46,qF 48 2 47,qL 49 48,qM 50 7,qI 51 1 49 50,qL 52 51,qM 53 8,oN (.eff (.tab .del) [52,53])]) (rR [] [qL 54 2,qK 55 54,qF 56 2 55,qL 57 56,qM 58 7,qI 59 1 57 58,qL 60 59,qM 61 8,qM 62 9,oN (.eff (.tab .put) [60,61,62])])))))))) (.seq (.mult [] [(0,qL 63 2),(0,qL 64 2),(0,qK 65 64),(0,qF 66 1 65),(0,qL 67 66),(0,qM 68 5),(0,qM 69 5),(0,oQ 70 (.bin .add 69 (.c (.int .i64 1)))),(2,oQ 71 (cF 56 [67,68,70])),(0,qK 72 63),(0,qF 73 1 72),(1,oN (.store 1 73 71))]) (.seq (rR [4] [oQ 4 (.mov (.c (.bool true)))]) .ret)))))))
def mO:RC:=
 (.seq (rR [0,1,2] [oQ 6 (.mov (.c (.sl .full [])))]) (.seq (.seq (rR [0,1,2,35] [qM 7 0,oQ 8 (.more (.eqP false) [7,(.c .cU)]),qM 9 8,oG 10 9 false (.mov 1),oG 11 9 false (.bin .lss 10 (.c (.int .i64 0))),oQ 12 (.pick 9 (.c (.bool true)) 11),qM 13 12,oG 14 13 false (.mov 1),oG 15 13 false (.mov 0),oG 16 13 false (.mJ 15),oG 17 13 false (.bn 0 16),oG 18 13 false (.load false 1 17),oG 19 13 false (.len false 18),oG 20 13 false (.bin .geq 14 19),oQ 21 (.pick 13 (.c (.bool true)) 20),qM 22 21,oG 23 22 false (.mov 2),oG 24 22 false (.len false 23),oG 25 22 false (.mov 0),oG 26 22 false (.mJ 25),oG 27 22 false (.bn 0 26),oG 28 22 false (.load false 1 27),oG 29 22 false (.mov 1),oG 30 22 false (.idx 3 28 29),oG 31 22 false (.bn 2 30),oG 32 22 false (.load false 1 31),oG 33 22 false (.len false 32),oG 34 22 false (.bin .neq 24 33),oQ 35 (.pick 22 (.c (.bool true)) 34)])
 (.cond 35 (.seq (rR [6] [oQ 6 (.mov (.c (.sl .full [])))]) .ret) .skip)) (.seq (.mult [6] [(0,qM 36 0),(0,qK 37 36),(0,qF 38 2 37),(0,qL 39 38),(0,qM 40 1),(0,qI 41 1 39 40),(0,qL 42 41),(0,qM 43 2),(0,oQ 44 (cF 47 [43])),(1,oQ 45 (.eff (.tab .get) [42,44])),(1,oQ 46 (cF 44 [45])),(0,oQ 6 (.take 46))]) .ret)))
def lN:RC:=
 (.seq (rR [0] [oQ 2 (.mov (.c (.sl .full [])))]) (.seq (.seq (rR [0,7] [qM 6 0,oQ 7 (.more (.eqP false) [6,(.c .cU)])]) (.cond 7 (.seq (rR [2] [oQ 2 (.mov (.c (.sl .full [])))]) .ret) .skip)) (.seq (rR [0,3] [oQ 3 (.mov (.c (.sl .full [])))]) (.seq (.seq (rR [3,11,12,13] [qM 8 0,qK 9 8,qF 10 1 9,qL 11 10,oQ 12 (.len false 11),oQ 13 (.mov (.c (.int .i64 0)))]) (.block 0 (.loop (.seq (rR [3,11,12,13,14] [oQ 14 (.bin .lss 13 12)]) (.seq (.cond 14 .skip (.exit 0)) (.seq (.block 1 (.seq (rR [3,5,11,12,13] [qI 15 3 11 13,qA 16 3 15,oQ 5 (.box (.c (.agg [(.int .i64 0),(.str ⟨⟨[]⟩⟩),(.sl .full [])]))),oN (.store 3 5 16)]) (rR [3,11,12,13] [qM 17 3,qA 18 3 5,oQ 19 (cF 45 [18]),oQ 20 (.aZ 3 [19]),oQ 21 (.append 3 17 20),qM 3 21]))) (rR [3,11,12,13] [oQ 22 (.bin .add 13 (.c (.int .i64 1))),qM 13 22]))))))) (.seq (rR [2] [qM 23 3,qM 2 23]) .ret)))))
def bR:RC:=
 (.seq (rR [0,1,2] [oQ 6 (.mov (.c (.int .i64 0))),oQ 7 (.mov (.c (.bool false)))]) (.seq (rR [0,1,2,8] [qM 12 0,oQ 13 (.len false 12),qM 8 13]) (.seq (rR [0,1,2,8,9,10] [qM 14 8,oQ 9 (.mov (.c (.int .i64 0))),qM 10 14]) (.seq (.block 0 (.loop (.seq (.seq (rR [0,1,2,8,9,10,17] [qM 15 9,qM 16 10,oQ 17 (.bin .lss 15 16)]) (.cond 17 .skip (.exit 0))) (.block 1 (.seq (rR [0,1,2,8,9,10,11] [qM 18 9,qM 19 10,oQ 20 (.bin .add 18 19),oQ 21 (.conv (some .u64) 20),oQ 22 (.bin .shr 21 (.c (.int .u64 1))),oQ 23 (.conv (some .i64) 22),qM 11 23]) (.seq (rR [0,1,2,8,9,10,11,31] [qM 24 2,qM 25 0,qM 26 11,qI 27 3 25 26,qA 28 3 27,qM 29 1,oQ 30 (.dP 24 [28,29]),oQ 31 (.bin .lss 30 (.c (.int .i64 0)))]) (.cond 31 (rR [0,1,2,8,9,10] [qM 32 11,oQ 33 (.bin .add 32 (.c (.int .i64 1))),qM 9 33]) (rR [0,1,2,8,9,10] [qM 34 11,qM 10 34]))))))))
 (.seq (rR [6,7] [qM 35 9,qM 36 9,qM 37 8,oQ 38 (.bin .lss 36 37),qM 39 38,oG 40 39 true (.mov 2),oG 41 39 true (.mov 0),oG 42 39 true (.mov 9),oG 43 39 true (.idx 3 41 42),oG 44 39 true (.load true 3 43),oG 45 39 true (.mov 1),oG 46 39 true (.dP 40 [44,45]),oG 47 39 true (.bin .eql 46 (.c (.int .i64 0))),oQ 48 (.pick 39 47 (.c (.bool false))),qM 6 35,qM 7 48]) .ret)))))
def fk:RC:=
 (.seq (rR [0,1] [oQ 4 (.mov (.c (.int .i64 0))),oQ 5 (.mov (.c (.bool false)))]) (.seq (rR [0,1,6] [qM 10 0,oQ 11 (.len false 10),qM 6 11]) (.seq (rR [0,1,6,7,8] [qM 12 6,oQ 7 (.mov (.c (.int .i64 0))),qM 8 12]) (.seq (.block 0 (.loop (.seq (.seq (rR [0,1,6,7,8,15] [qM 13 7,qM 14 8,oQ 15 (.bin .lss 13 14)]) (.cond 15 .skip (.exit 0))) (.block 1 (.seq (rR [0,1,6,7,8,9] [qM 16 7,qM 17 8,oQ 18 (.bin .add 16 17),oQ 19 (.conv (some .u64) 18),oQ 20 (.bin .shr 19 (.c (.int .u64 1))),oQ 21 (.conv (some .i64) 20),qM 9 21]) (.seq (rR [0,1,6,7,8,9,27] [qM 22 0,qM 23 9,qI 24 1 22 23,qL 25 24,qM 26 1,oQ 27 (cF 155 [25,26])]) (.cond 27 (rR [0,1,6,7,8] [qM 28 9,oQ 29 (.bin .add 28 (.c (.int .i64 1))),qM 7 29]) (rR [0,1,6,7,8] [qM 30 9,qM 8 30])))))))) (.seq (rR [4,5] [qM 31 7,qM 32 7,qM 33 6,oQ 34 (.bin .lss 32 33),qM 35 34,oG 36 35 true (.mov 0),oG 37 35 true (.mov 7),oG 38 35 true (.idx 1 36 37),oG 39 35 true (.load false 1 38),oG 40 35 true (.mov 1),oG 41 35 true (.bin .eql 39 40),oG 42 35 true (.mov 41),oG 43 42 false (.mov 0),oG 44 42 false (.mov 7),oG 45 42 false (.idx 1 43 44),oG 46 42 false (.load false 1 45),oG 47 42 false (cF 156 [46]),oG 48 42 false (.mov 47),oG 49 48 true (.mov 1),oG 50 48 true (cF 156 [49]),oG 51 42 false (.pick 48 50 (.c (.bool false))),oG 52 35 true (.pick 42 (.c (.bool true)) 51),oQ 53 (.pick 35 52 (.c (.bool false))),qM 4 31,qM 5 53])
 .ret)))))
theorem fq(hn:ae.length<=54)(h:SP Tryz.prog true ae bs fk [.slot 4,.slot 5] Q):AM.Sem Tryz.prog 105 ae bs Q:=
 oZ (keeps:=[(0,[0,1]),(1,[0,1,6]),(2,[0,1,6,7,8]),(3,[0,1,6,7,8,15]),(4,[0,1,6,7,8,9]),(5,[0,1,6,7,8,9,27]),(7,[0,1,6,7,8]),(6,[0,1,6,7,8]),(8,[4,5])]) (solo:=[]) Tryz.func105 rfl hn h
theorem lX(hn:ae.length<=6)(h:SP Tryz.prog false ae bs mM [.slot 4] Q):AM.Sem Tryz.prog 53 ae bs Q:=
 oZ (keeps:=[(0,[2,3]),(1,[4])]) (solo:=[]) Tryz.func53 rfl hn h
theorem j4(hn:ae.length<=55)(h:SP Tryz.prog false ae bs kE [] Q):AM.Sem Tryz.prog 108 ae bs Q:=
 oZ (keeps:=[(0,[0,2,12,13,14]),(1,[0,2,12,13,14,15]),(2,[0,2,4,5,12,13,14]),(3,[0,2,4,5,12,13,14,31]),(4,[0,2,4,5,6,12,13,14]),(5,[0,2,4,6,12,13,14,33,34,35]),(6,[0,2,4,6,12,13,14,33,34,35,36]),(7,[0,2,4,6,8,12,13,14,33,34,35]),(8,[0,2,4,6,12,13,14,33,34,35]),(9,[0,2,4,6,12,13,14,33,34,35]),(10,[0,2,12,13,14,53]),(11,[0,2,12,13,14])]) (solo:=[]) Tryz.func108 rfl hn h
theorem kZ(hn:ae.length<=45)(h:SP Tryz.prog false ae bs lM [] Q):AM.Sem Tryz.prog 51 ae bs Q:=
 oZ (keeps:=[(0,[2,3]),(1,[2,3,12]),(2,[2,3,4,14]),(3,[2,3,4,5]),(4,[2,3,4,5,6]),(5,[2,3,4,5,6,7]),(6,[]),(1000000,[43]),(2000006,[0,1,2,3,4,5,6,7,8,9,10,11,12,13,14]),(3000006,[0,0,0,0,0,0,0,0,0,0,0,0,2,2,1])]) (solo:=[]) Tryz.func51 rfl hn h
theorem lY(hn:ae.length<=14)(h:SP Tryz.prog false ae bs mN [.slot 4,.slot 5] Q):AM.Sem Tryz.prog 48 ae bs Q:=
 oZ (keeps:=[(0,[0,1]),(1,[4,5])]) (solo:=[]) Tryz.func48 rfl hn h
theorem j5(hn:ae.length<=51)(h:SP Tryz.prog false ae bs kG [.slot 4] Q):AM.Sem Tryz.prog 14 ae bs Q:=
 oZ (keeps:=[(0,[0,3]),(1,[0,3,8]),(2,[4]),(3,[0,3,5,6]),(4,[0,3,5,6,16]),(6,[0,3,5,26]),(8,[0,3,5,28]),(9,[4]),(7,[4]),(5,[4]),(10,[0,3,5]),(11,[0,3]),(12,[]),(13,[4]),(1000000,[44]),(2000011,[0,1,2,3,4,5,6,7,8,9,10,11]),(3000011,[0,0,0,0,0,0,0,2,2,0,0,1])]) (solo:=[]) Tryz.func14 rfl hn h
theorem j6(hn:ae.length<=74)(h:SP Tryz.prog false ae bs kH [.slot 4] Q):AM.Sem Tryz.prog 16 ae bs Q:=
 oZ (keeps:=[(0,[2,3,4]),(1,[2,3,4,11]),(2,[4]),(3,[2,3,4,5,6]),(4,[2,3,4,5,19]),(5,[4]),(6,[2,3,4,5,29]),(7,[2,3,7,31]),(8,[2,3,7,8]),(9,[2,7,8,9]),(10,[2,7,8,9,45]),(12,[]),(11,[]),(13,[]),(14,[4]),(2000006,[0,1,2,3,4,5,6,7,8,9]),(3000006,[0,0,0,0,0,0,0,0,0,1]),(2000013,[0,1,2,3,4,5,6,7,8,9,10,11]),(3000013,[0,0,0,0,0,0,0,0,2,0,0,1])]) (solo:=[]) Tryz.func16 rfl hn h
theorem lZ(hn:ae.length<=47)(h:SP Tryz.prog false ae bs mO [.slot 6] Q):AM.Sem Tryz.prog 13 ae bs Q:=
 oZ (keeps:=[(0,[0,1,2]),(1,[0,1,2,35]),(2,[6]),(3,[6]),(2000003,[0,1,2,3,4,5,6,7,8,9,10,11]),(3000003,[0,0,0,0,0,0,0,0,0,1,1,0])]) (solo:=[]) Tryz.func13 rfl hn h
theorem k9(hn:ae.length<=24)(h:SP Tryz.prog false ae bs lN [.slot 2] Q):AM.Sem Tryz.prog 12 ae bs Q:=
 oZ (keeps:=[(0,[0]),(1,[0,7]),(2,[2]),(3,[0,3]),(4,[3,11,12,13]),(5,[3,11,12,13,14]),(6,[3,5,11,12,13]),(7,[3,11,12,13]),(8,[3,11,12,13]),(9,[2])]) (solo:=[]) Tryz.func12 rfl hn h
theorem bP(hn:ae.length<=49)(h:SP Tryz.prog false ae bs bR [.slot 6,.slot 7] Q):AM.Sem Tryz.prog 99 ae bs Q:=
 oZ (keeps:=[(0,[0,1,2]),(1,[0,1,2,8]),(2,[0,1,2,8,9,10]),(3,[0,1,2,8,9,10,17]),(4,[0,1,2,8,9,10,11]),(5,[0,1,2,8,9,10,11,31]),(7,[0,1,2,8,9,10]),(6,[0,1,2,8,9,10]),(8,[6,7])]) (solo:=[]) Tryz.func99 rfl hn h
end Go.CK
namespace Go.CK
open Go.AM Go.RowKit Go.Proofs
theorem HD{w w':World}(h:Below w.heap.size w w'):(Hp.of w).le (Hp.of w'):=λb o v hv=>by
 have hlt:=Hp.lt (Hp.le_refl _) hv;simp only[Hp.of,World.cell?] at hv|-;rw[h.block b hlt];exact hv
theorem Fun.G6{P:Program}{f:FuncId}{ae:List AV}{t:ByteArray}(ht:t.size<=lim)(hf:ae.all AV.flat=true)(h:∀(w:World) (args:List Value),Tb w->args.length=ae.length->(∀j (hj:j<ae.length) v,args[j]? =some v->FV (Hp.of w) ae[j] v)->Calls P f args.toArray w λe w'=>e=.returned (.string t)/\Below w.heap.size w w'):Fun P f ae (.str t):=by
 intro bs E G a0 w args lo hs hl hv;have hfl:∀j (hj:j<ae.length),(ae[j]).flat=true:=λj hj=>zT.1 hf _ (zd hj);refine(h w args hs.fr.kn.tb hl (λj hj v hjv=>((hv j hj v hjv).IJ (hfl j hj)).mono hs.ok)).mono ?_;rintro e w' ⟨rfl,hb⟩;have h0:=hs.pw (bB G bs w 1) ⟨#[.string t],[]⟩ (Fr.refl _ _ _ hs.fr.kn) rfl bs.length rfl (zG _) (λ_ _=>rfl) (λB hB=>.inl hB) rfl;have h1:=h0.grow (M':=G.M) (w':=w') ⟨hb.os,hb.tape,hb.output,hb.size,Hp.le_refl _,λB hB _=>hb.block B hB,λ_ _ _ _=>rfl⟩ (Hp.le_trans hs.ok (HD hb));refine⟨_,_,_,_,rfl,⟨rfl,rfl⟩,h1.put (k:=0) Zz (x:=.str t) (.flat (.str t ht))⟩
def dw(key:List Tm):ByteArray:=⟨(bh key).toArray⟩
theorem D2{key:List Tm}(hio:Tm.ios key)(hlen:(bh key).length<=100000000):Fun Tryz.prog 47 [slA Tm.av key] (.str (dw key)):=by
 refine Fun.G6 (by simp[dw,ByteArray.size,lim];omega) rfl λw args ht hl hv=>?_
 match args,hl with
 |[v],_=>exact J3 ht hio (hv 0 (by simp) v rfl) hlen
def tmA:Option Tm->AV
 |some t=>t.avw
 |none=>.agg [.top,.top,.top,.top]
theorem fL:Plain tmA 4:=by
 refine⟨by decide,λx=>by cases x<;>rfl,λx c h=>?_,λx c h=>?_⟩
 .cases x<;>(simp[tmA,Tm.avw,AV.cells] at h;rcases h with rfl|rfl|rfl|rfl<;>rfl)
 .cases x<;>(simp[tmA,Tm.avw,AV.cells] at h;rcases h with rfl|rfl|rfl|rfl<;>rfl)
theorem sM(l:List Tm):(l.map some).map tmA=l.map Tm.av:=by
 rw[List.map_map];exact List.map_congr_left λt _=>(Tm.sj t).symm
theorem wV{l:List Tm}(hl:l.length<=4294967296):AM.Sem Tryz.prog 150 [.sl .no (l.map Tm.av)] [] λr bs'=>∃k,l.length<=k/\r=.bsl 0 l.length k/\bs'=[aN tmA 4 k (l.map some)]:=by
 refine er (by simp) ?_
 conv=>whnf
 skip;refine IA.no λb hb=>?_
 conv=>whnf
 repeat' (refine gC ?_;refine aj.any (λhc=>?_) (λhc=>?_))<;>conv=>whnf
 .have hl0:l=[]:=by simpa using hb hc
  subst hl0;exact ai.Gu 2 rfl (ai.slot ⟨0,zG _,rfl,rfl⟩)
 .rw [<-sM];refine DX.Kv (l':=l.map some) fL (by rw[zF];exact hl) λk hk=>?_
  conv=>whnf
  skip;rw[zF] at hk;exact ai.slot ⟨k,hk,by simp[St.get,aq],rfl⟩
theorem J0{α:Type}{l:List α}{j:Nat}{x:α}(hx:l[j]? =some x):(l.map some)[j]? =some (some x)/\(l.map some).set j (some x)=l.map some:=by
 have h1:(l.map some)[j]? =some (some x):=by rw[ZG,hx];rfl
 refine⟨h1,Zr λi=>?_⟩
 by_cases e:j=i
 .subst e;rw[List.getElem?_set_self (zB.1 h1).1,h1]
 .rw [Zh e]
mutual
theorem wgh_cn : ∀ (t : Tm) (left deep : Int), 0 ≤ t.wgh left deep → ((t.nodes : Nat) : Int) ≤ left - t.wgh left deep
 | .mk k n s l, left, deep, h => by
  rw [Tm.wgh] at h ⊢; have h8 := pg s.size; split at h
  · omega
  · rename_i hc; rw [if_neg hc]; have := wghs_cn l (left - 1 - (s.size : Int).tdiv 8) (deep - 1) (by omega) h; rw [Tm.nodes]; omega
theorem wghs_cn : ∀ (l : List Tm) (left deep : Int), 0 ≤ left → 0 ≤ Tm.dJ l left deep → ((Tm.aD l : Nat) : Int) ≤ left - Tm.dJ l left deep
 | [], left, deep, _, h => by simp only [Tm.dJ, Tm.aD]; omega
 | t :: r, left, deep, h0, h => by
  rw [Tm.dJ, if_neg (by omega)] at h ⊢
  by_cases h3 : 0 ≤ t.wgh left deep
  · have h4 := wgh_cn t left deep h3; have h5 := wghs_cn r (t.wgh left deep) deep h3 h; rw [Tm.aD]; omega
  · rw [mT _ (by omega)] at h; omega
end
theorem weigh_cn {l : List Tm} {left deep : Int} (h : 0 ≤ bg l left deep) : ((Tm.aD l : Nat) : Int) ≤ left := by
 unfold bg at h; split at h
 · omega
 · rename_i hc; have := wghs_cn l left deep (by omega) h; omega
theorem FQ{t:Tm} (hL : t.args.length ≤ 4000000000)(ih:∀x∈t.args,Fun Tryz.prog 96 [x.avw] x.avw):Fun Tryz.prog 96 [t.avw] t.avw:=by
 refine Fun.of (Sem.assume λhg0 _=>?_) rfl rfl;have hg : t.args.length ≤ 4294967296 := by omega
 refine rZ (by simp) ?_
 conv=>whnf
 skip;refine ah.at [] (wV (l:=t.args) (by omega)) rfl rfl ?_ oko ?_
 .rintro r bs' ⟨k,hk,rfl,rfl⟩;exact⟨rfl,rfl,oko⟩
 rintro r bs' ⟨k,hk,rfl,rfl⟩
 conv=>whnf
 skip;refine aJ.by (fb:=true) (λ_ (j:Nat)=>⟨[(1,.ptr 0 0),(2,.ptr 1 0),(10,.bsl 2 t.args.length k),(11,.int .i64 (t.args.length:Int)),(12,.int .i64 (j:Int))],[.cells [.int .i64 t.kind,.int .i64 t.num,.str t.name,.bsl 2 t.args.length k],.cells [.int .i64 0,.int .i64 0,.str ⟨⟨[]⟩⟩,.sl .full []],aN tmA 4 k (t.args.map some)],0⟩) (λj=>j<=t.args.length) (λj=>t.args.length-j) 0 (zJ _) ?_ ?_
 .exact bH
 .rintro j q1
  by_cases hj:j<t.args.length
  .obtain ⟨x,hx⟩:∃x,t.args[j]? =some x:=⟨_,zA hj⟩;obtain⟨u1,u2⟩:=J0 hx;have hx1:=ih x (zE hx)
   conv=>whnf
   repeat' (first|refine gC (gD (cI ?_))|refine gN (nS ?_))<;>conv=>whnf
   refine ElN.elem fL rfl u1 ?_
   conv=>whnf
   repeat' (first|refine gG (bO.fn (hx1) ?_)|refine gN (nS ?_))<;>conv=>whnf
   refine EsN.elem fL (λx=>by cases x<;>rfl) (x:=some x) (y:=some x) rfl u1 rfl ?_
   conv=>whnf
   repeat' refine gW (wI ?_)<;>conv=>whnf
   refine⟨j+1,⟨hj,by omega⟩,?_⟩
   rw[Zq,u2];refine az.lay [some 0,some 1,some 2] oko ?_
   conv=>whnf
   exact bH
  .obtain rfl:j=t.args.length:=by omega
   conv=>whnf
   repeat' refine gC (gD (cJ ?_))<;>conv=>whnf
   refine ai.nZ fL 1 3 (b:=2) (l:=t.args.map some) rfl rfl rfl (by simp) ?_
   rw[zm (by simp),sM]
   conv=>whnf
   repeat' refine ai.nrm ?_<;>conv=>whnf
   rfl
theorem FO(t:Tm):t.nodes ≤ 2000000 → Fun Tryz.prog 96 [t.avw] t.avw:=by
 induction t using Tm.bu with
 | h k n s l ih =>
  intro hN; rw [Tm.nodes] at hN; have h1 := cD l
  exact FQ (t := .mk k n s l) (by show l.length ≤ _; omega) fun x hx => ih x hx (by have := lj (l := l) hx; omega)
theorem xY(i:It) (hN : Tm.aD i.atom.args ≤ 1000000):Fun Tryz.prog 45 [i.av] i.av:=by
 have h:Fun Tryz.prog 96 [.agg [.int .i64 0,.int .i64 0,.str ⟨⟨[]⟩⟩,.sl .no (i.atom.args.map Tm.av)]] (.agg [.int .i64 0,.int .i64 0,.str ⟨⟨[]⟩⟩,.sl .no (i.atom.args.map Tm.av)]):=FO (.mk 0 0 ⟨⟨[]⟩⟩ i.atom.args) (by rw [Tm.nodes]; omega);refine Fun.of (x8 (by simp) ?_) rfl rfl
 conv=>whnf
 repeat' (first|refine gF (ah.fn (h) ?_)|refine ai.nrm ?_)<;>conv=>whnf
 rfl
end Go.CK
namespace Go.CK
open Go.AM Go.Proofs
def Ac.has(c:Ac)(s:ByteArray)(args:List Tm):Bool:=decide (c.name=s)&&decide (c.arity=args.length)
def tm0:Tm:=.mk 0 0 ⟨#[]⟩ []
def keyOf(c:Ac)(args:List Tm):List Tm:=c.positions.map λp=>args.getD p.toNat tm0
def vV(c:Ac)(args:List Tm):Prop:=∀p∈c.positions,0<=p/\p<args.length
theorem wq{c:Ac}{args:List Tm}(h:Tm.ios args)(hp:vV c args):Tm.ios (keyOf c args):=Tm.jr.2 λt ht=>by
 obtain⟨p,hpm,rfl⟩:=zl.1 ht;obtain⟨h0,h1⟩:=hp p hpm;have hlt:p.toNat<args.length:=by omega
 refine Tm.jr.1 h _ ?_;simp[List.getD,zA hlt]
theorem wu{bs:List Box}{p:Nat}{s:ByteArray}{args:List Tm}:AM.Sem Tryz.prog 53 [.ptr p 0,.agg [.str s,.sl .no (args.map Tm.av)]] bs λr bs'=>r=.fn (.func 108) [] [.ptr bs.length 0,.ptr (bs.length+1) 0]/\bs'=bs++[.cells [.ptr p 0]]++[.cells [.str s,.sl .no (args.map Tm.av)]]:=by
 refine lX (by simp) ?_
 conv=>whnf
 try dsimp only
 skip;have e:(bs++[Box.cells [AV.ptr p 0]]).length=bs.length+1:=by simp
 rw[e];exact⟨_,au.refl _,.inl ⟨rfl,rfl⟩⟩
structure DV(bs0:List Box)(n q1 q2 p:Nat)(acc:List Ac)(s:ByteArray)(args:List Tm)(J:Nat->List Box->Prop):Prop where
 x:∀j bs,J j bs->bs[q1]? =some (.cells [.ptr p 0])
 a:∀j bs,J j bs->bs[q2]? =some (.cells [.str s,.sl .no (args.map Tm.av)])
 p:∀j bs,J j bs->∃I T,bs[p]? =some (.cells [slA Ac.av acc,I,T])
 snoc:∀j bs b,J j bs->J j (bs++[b])
 skip:∀j bs c,J j bs->acc[j]? =some c->c.has s args=false->J (j+1) bs
 act:∀j bs c,J j bs->acc[j]? =some c->c.has s args=true->my Tryz.prog n [.int .i64 (j:Int),.str (dw (keyOf c args))] bs λr bs'=>r=.bool true/\J (j+1) bs'
theorem tX{bs:List Box}{n q1 q2 p:Nat}{acc:List Ac}{s:ByteArray}{args:List Tm}{J:Nat->List Box->Prop}(hJ:DV bs n q1 q2 p acc s args J)(h0:J 0 bs)(hio:Tm.ios args)(hpos:∀c∈acc,c.has s args=true->vV c args)(hlen:∀c∈acc,c.has s args=true->(bh (keyOf c args)).length<=100000000)(hacc:acc.length<=1000000)(hpl:∀c∈acc,c.positions.length<=1000000):
  AM.Sem Tryz.prog 108 [.yl n,.ptr q1 0,.ptr q2 0] bs λr bs'=>r=.tup []/\J acc.length bs':=by
 refine j4 (by simp) ?_
 conv=>whnf
 try dsimp only
 skip;refine ku.of (cs:=[.ptr p 0]) (by simp[aa,hJ.x _ _ h0,Box.cs?]) ?_
 conv=>whnf
 try dsimp only
 skip;obtain⟨I0,T0,hp0⟩:=hJ.p _ _ h0;refine ku.of (cs:=[slA Ac.av acc,I0,T0]) (by simp[aa,hp0,Box.cs?]) ?_
 conv=>whnf
 try dsimp only
 repeat' refine gL (.map ?_)<;>(conv=>whnf;try dsimp only)
 refine aJ.by (fb:=false) (λ_ (a:Nat×List Box)=>⟨[(0,.yl n),(2,.ptr q2 0),(12,.sl .no (acc.map Ac.av)),(13,.int .i64 (acc.length:Int)),(14,.int .i64 (a.1:Int))],a.2,bs.length⟩) (λa=>a.1<=acc.length/\J a.1 a.2) (λa=>acc.length-a.1) (0,bs) ⟨zJ _,h0⟩ ?_ ?_
 .refine az.atS ?_ rfl rfl
  conv=>whnf
  repeat' (first|(refine gV ?_;first|refine vE ?_|refine vI ?_)|exact True.intro)<;>conv=>whnf
 .rintro ⟨j,b2⟩ ⟨q1',hj⟩;dsimp only at q1' hj
  by_cases hlt:j<acc.length
  .obtain ⟨c,hc⟩:∃c,acc[j]? =some c:=⟨_,zA hlt⟩;have hcm:=zE hc;have hq2:=hJ.a _ _ hj;have hB3:=hJ.snoc j b2 (.cells [AV.str c.name,AV.int IntKind.i64 c.arity,AV.sl Cap.no (List.map bF c.positions)]) hj;have hQc:aa (b2++[Box.cells [AV.str c.name,AV.int IntKind.i64 c.arity,AV.sl Cap.no (List.map bF c.positions)]]) b2.length=some [AV.str c.name,AV.int IntKind.i64 c.arity,AV.sl Cap.no (List.map bF c.positions)]:=by simp[aa,Box.cs?]
   conv=>whnf
   try dsimp only
   repeat' (first|refine gC (gD (cI ?_))|refine gI (gM (iE ?_))|refine gB (.last ?_)|refine dG.last ?_)<;>(conv=>whnf;try dsimp only)
   obtain⟨B3,hB⟩:∃B3,B3=b2++[Box.cells [AV.str c.name,AV.int IntKind.i64 c.arity,AV.sl Cap.no (List.map bF c.positions)]]:=⟨_,rfl⟩;rw[<-hB] at hB3 hQc|-;clear hB;have hQ2:aa B3 q2=some [AV.str s,.sl .no (args.map Tm.av)]:=by simp[aa,hJ.a _ _ hB3,Box.cs?]
   by_cases hn:c.name=s
   .by_cases ha:c.arity=args.length
    .have hh:c.has s args=true:=by simp[Ac.has,hn,ha]
     have hpc:=hpos c hcm hh;have hcl:=hpl c hcm
     conv=>whnf
     try dsimp only
     repeat' (first|(refine gC ?_;first|refine .not ?_|refine gD (cI ?_))|refine gL (.map ?_)|refine gB (.of (by assumption) ?_))<;>(conv=>whnf;try dsimp only)
     refine aJ.by (fb:=false) (λ_ (i:Nat)=>⟨[(0,.yl n),(2,.ptr q2 0),(4,.int .i64 (j:Int)),(6,.sl (.own 4) (((c.positions.take i).map λp=>args.getD p.toNat tm0).map Tm.av)),(12,.sl .no (acc.map Ac.av)),(13,.int .i64 (acc.length:Int)),(14,.int .i64 (j:Int)),(33,.sl .no (c.positions.map bF)),(34,.int .i64 (c.positions.length:Int)),(35,.int .i64 (i:Int))],B3,bs.length⟩) (λi=>i<=c.positions.length) (λi=>c.positions.length-i) 0 (zJ _) ?_ ?_
     .rw [ZM];refine az.atS ?_ rfl rfl
      conv=>whnf
      repeat' (first|(refine gV ?_;first|refine vE ?_|refine vI ?_|((refine gK ?_;refine vD ?_ ?_);(focus (simp[AV.norm,AV.bG,];done))))|exact True.intro)<;>conv=>whnf
     .intro i hi
      by_cases hil:i<c.positions.length
      .obtain ⟨y,hy⟩:∃y,c.positions[i]? =some y:=⟨_,zA hil⟩;obtain⟨hy0,hy1⟩:=hpc y (zE hy);obtain⟨x,hx⟩:∃x,args[y.toNat]? =some x:=⟨_,zA (by omega)⟩
       have htk:((c.positions.take (i+1)).map λp=>args.getD p.toNat tm0).map Tm.av=((c.positions.take i).map λp=>args.getD p.toNat tm0).map Tm.av++[.agg [.int .i64 x.kind,.int .i64 x.num,.str x.name,.sl .no (x.args.map Tm.av)]]:=by
        rw[ZD,hy];simp[hx,Tm.sj,Tm.avw]
       conv=>whnf
       try dsimp only
       repeat' (first|refine gC (gD (cI ?_))|refine gW (wI ?_)|refine gN (nS ?_)|(refine gI ?_;first|refine gT (iB ?_)|refine gM (iE ?_))|refine gB (.of (by assumption) ?_))<;>(conv=>whnf;try dsimp only)
       refine⟨i+1,⟨hil,by omega⟩,?_⟩
       rw[htk];refine az.atS ?_ rfl rfl
       conv=>whnf
       repeat' (first|(refine gV ?_;first|refine vE ?_|refine vI ?_)|exact True.intro)<;>conv=>whnf
      .obtain rfl:i=c.positions.length:=by omega
       rw[ZA];have htx:=D2 (wq hio hpc) (hlen c hcm hh)
       conv=>whnf
       try dsimp only
       repeat' (first|refine gF (ah.fn (htx) ?_)|refine gC (gD (cJ ?_)))<;>(conv=>whnf;try dsimp only)
       refine uZ.of (hJ.act _ _ _ hB3 hc hh) ?_;rintro r b4 ⟨rfl,hB4⟩
       conv=>whnf
       try dsimp only
       repeat' (first|(refine gC ?_;first|refine cY ?_|refine .not ?_)|refine gW (wI ?_))<;>(conv=>whnf;try dsimp only)
       refine⟨(j+1,b4),⟨⟨hlt,hB4⟩,by dsimp only;omega⟩,?_⟩
       refine az.atS ?_ rfl rfl
       conv=>whnf
       repeat' (first|(refine gV ?_;first|refine vE ?_|refine vI ?_)|exact True.intro)<;>conv=>whnf
    .have hh:c.has s args=false:=by simp[Ac.has,hn,ha]
     conv=>whnf
     try dsimp only
     repeat' (first|(refine gC ?_;first|refine .not ?_|(refine gD ?_;first|refine cI ?_|refine cJ ?_))|refine gW (wI ?_)|refine gL (.map ?_)|refine gB (.of (by assumption) ?_))<;>(conv=>whnf;try dsimp only)
     refine⟨(j+1,B3),⟨⟨hlt,hJ.skip _ _ _ hB3 hc hh⟩,by dsimp only;omega⟩,?_⟩
     refine az.atS ?_ rfl rfl
     conv=>whnf
     repeat' (first|(refine gV ?_;first|refine vE ?_|refine vI ?_)|exact True.intro)<;>conv=>whnf
   .have hh:c.has s args=false:=by simp[Ac.has,hn]
    conv=>whnf
    try dsimp only
    repeat' (first|(refine gC ?_;first|refine cY ?_|refine .not ?_|refine gD (cJ ?_))|refine gW (wI ?_)|refine gB (.of (by assumption) ?_))<;>(conv=>whnf;try dsimp only)
    refine⟨(j+1,B3),⟨⟨hlt,hJ.skip _ _ _ hB3 hc hh⟩,by dsimp only;omega⟩,?_⟩
    refine az.atS ?_ rfl rfl
    conv=>whnf
    repeat' (first|(refine gV ?_;first|refine vE ?_|refine vI ?_)|exact True.intro)<;>conv=>whnf
  .obtain rfl:j=acc.length:=by omega
   conv=>whnf
   try dsimp only
   repeat' refine gC (gD (cJ ?_))<;>(conv=>whnf;try dsimp only)
   exact⟨_,au.refl _,.inl ⟨rfl,hj⟩⟩
end Go.CK
namespace Go.CK
open Go.AM Go.Proofs
def sel(c:Ac)(k:ByteArray)(its:List It):List Int:=(its.filter λi=>c.has i.atom.name i.atom.args&&decide (dw (keyOf c i.atom.args)=k)).map It.id
structure TabIs(c:Ac)(its:List It)(l:List TR):Prop where
 ids:∀r∈l,r.ids=sel c r.key its/\r.ids≠[]
 all:∀k,sel c k its≠[]->∃r∈l,r.key=k
theorem TabIs.nil(c:Ac):TabIs c [] []:=⟨λ_ h=>(by cases h),λk h=>absurd rfl h⟩
def aY(l:List It)(i:It):List It:=l.filter (λx=>decide (x.id<i.id))++i::l.filter (λx=>!decide (x.id<i.id))
def Asc(l:List It):Prop:=l.Pairwise λa b=>a.id<b.id
theorem ke{l:List It}{q:It->Bool}{p:Int->Bool}:((l.filter λx=>p x.id).filter q).map It.id=((l.filter q).map It.id).filter p:=by
 rw[List.filter_map,List.filter_filter,List.filter_filter];congr 1;refine Zp λx _=>?_;simp[Bool.and_comm]
theorem Eb(c:Ac)(k:ByteArray)(l:List It)(i:It):sel c k (aY l i)=(sel c k l).filter (λn=>decide (n<i.id))++((if c.has i.atom.name i.atom.args&&decide (dw (keyOf c i.atom.args)=k) then [i.id] else [])++(sel c k l).filter (λn=>!decide (n<i.id))):=by
 unfold sel aY;rw[yO,zw,List.filter_cons];have h1:=ke (l:=l) (q:=λi=>c.has i.atom.name i.atom.args&&decide (dw (keyOf c i.atom.args)=k)) (p:=λn=>decide (n<i.id));have h2:=ke (l:=l) (q:=λi=>c.has i.atom.name i.atom.args&&decide (dw (keyOf c i.atom.args)=k)) (p:=λn=>!decide (n<i.id));rw[h1];congr 1;split
 .rw [zQ,h2];rfl
 .rw [h2];rfl
theorem sr(c:Ac)(k:ByteArray)(l:List It):(sel c k l).length<=l.length:=by
 unfold sel;rw[zF];exact yB _ _
theorem wZ{l:List Int}(h:l.Pairwise (·<·))(n:Int):l.filter (λx=>decide (x<n))=l.take (l.countP λx=>decide (x<n))/\l.filter (λx=>!decide (x<n))=l.drop (l.countP λx=>decide (x<n)):=by
 induction l with
 |nil=>exact⟨rfl,rfl⟩
 |cons a l ih=>
  rw[ZB] at h;obtain⟨i1,i2⟩:=ih h.2
  by_cases hx:a<n
  .simp only[List.filter_cons,List.countP_cons,hx,decide_true,if_true,Bool.not_true,Za,if_false,yG,List.drop_succ_cons];exact⟨by rw[i1],i2⟩
  .have h0:∀x∈l,¬x<n:=λx hm=>by have:=h.1 x hm;omega
   have hc:l.countP (λx=>decide (x<n))=0:=List.countP_eq_zero.2 λx hm=>by simpa using h0 x hm
   have hf:l.filter (λx=>decide (x<n))=[]:=List.filter_eq_nil_iff.2 λx hm=>by simpa using h0 x hm
   have hg:l.filter (λx=>!decide (x<n))=l:=yF.2 λx hm=>by simpa using h0 x hm
   simp only[List.filter_cons,List.countP_cons,hx,decide_false,Za,if_false,Bool.not_false,if_true,hc,hf,hg];exact⟨rfl,rfl⟩
theorem Io{l:List Int}(h:l.Pairwise (·<·))(n:Int):l.filter (λx=>decide (x<n))++l.filter (λx=>!decide (x<n))=l:=by
 obtain⟨h1,h2⟩:=wZ h n;rw[h1,h2,List.take_append_drop]
theorem xJ{c:Ac}{k:ByteArray}{l:List It}(h:Asc l):(sel c k l).Pairwise (·<·):=by
 unfold sel;rw[List.pairwise_map];exact List.Pairwise.filter _ h
theorem Ay{c:Ac}{l:List It}(h:Asc l){i:It}(hh:c.has i.atom.name i.atom.args=true):sel c (dw (keyOf c i.atom.args)) (aY l i)=gY (sel c (dw (keyOf c i.atom.args)) l) ((sel c (dw (keyOf c i.atom.args)) l).countP λx=>decide (x<i.id)) i.id:=by
 obtain⟨h1,h2⟩:=wZ (xJ (c:=c) (k:=dw (keyOf c i.atom.args)) h) i.id;rw[Eb,if_pos (by simp[hh]),gY,h1,h2];rfl
theorem tc{c:Ac}{k:ByteArray}{l:List It}(h:Asc l){i:It}(hh:(c.has i.atom.name i.atom.args&&decide (dw (keyOf c i.atom.args)=k))=false):sel c k (aY l i)=sel c k l:=by
 rw[Eb,if_neg (by rw[hh];exact Bool.false_ne_true),Zl,Io (xJ h)]
theorem TabIs.skip{c:Ac}{its:List It}{l:List TR}(h:TabIs c its l)(ha:Asc its){i:It}(hh:c.has i.atom.name i.atom.args=false):TabIs c (aY its i) l:=by
 have e:∀k,sel c k (aY its i)=sel c k its:=λk=>tc ha (by simp[hh])
 exact⟨λr hr=>by rw[e];exact h.ids r hr,λk hk=>h.all k (by rw[<-e];exact hk)⟩
theorem E8{l:List TR}{r:TR}{n:Nat}:∃q∈cg l r n,q.key=r.key:=by
 induction l with
 |nil=>exact⟨_,zq.2 rfl,rfl⟩
 |cons a l ih=>
  rw[cg];split
  .exact ⟨_,zW ..,rfl⟩
  .obtain ⟨q,h1,h2⟩:=ih;exact⟨q,zR _ h1,h2⟩
theorem E7{l:List TR}{r q:TR}{n:Nat}(h:q∈l)(hk:q.key≠r.key):q∈cg l r n:=by
 induction l with
 |nil=>cases h
 |cons a l ih=>
  rw[cg];rcases zI.1 h with rfl|h
  .rw [if_neg hk];exact zW ..
  .split
   .exact zR _ h
   .exact zR _ (ih h)
theorem TabIs.put{c:Ac}{its its':List It}{l:List TR}{r:TR}{n:Nat}(h:TabIs c its l)(hn:(l.map TR.key).Nodup)(hk:∀k,k≠r.key->sel c k its'=sel c k its)(hr:r.ids=sel c r.key its')(hne:r.ids≠[]):TabIs c its' (cg l r n):=by
 refine⟨λq hq=>?_,λk hk'=>?_⟩
 .rcases kx hq hn with ⟨h1,h2⟩|⟨m,rfl⟩
  .rw [hk _ h2];exact h.ids q h1
  .exact ⟨hr,hne⟩
 .by_cases e:k=r.key
  .obtain ⟨q,h1,h2⟩:=E8 (l:=l) (r:=r) (n:=n);exact⟨q,h1,h2.trans e.symm⟩
  .rw [hk k e] at hk';obtain⟨q,h1,h2⟩:=h.all k hk';exact⟨q,E7 h1 (by rw[h2];exact e),h2⟩
theorem wy{l:List It}{i x:It}:x∈aY l i↔x=i\/x∈l:=by
 simp only[aY,zZ,zp,zI];constructor
 .rintro (h|h|h)
  .exact .inr h.1
  .exact .inl h
  .exact .inr h.1
 .rintro (h|h)
  .exact .inr (.inl h)
  .by_cases e:x.id<i.id
   .exact .inl ⟨h,by simpa using e⟩
   .exact .inr (.inr ⟨h,by simpa using e⟩)
theorem wz{l:List It}(h:Asc l){i:It}(hi:∀x∈l,x.id≠i.id):Asc (aY l i):=by
 unfold aY Asc;rw[List.pairwise_append,ZB];refine⟨List.Pairwise.filter _ h,⟨λx hx=>?_,List.Pairwise.filter _ h⟩,λa ha b hb=>?_⟩
 .obtain ⟨h1,h2⟩:=zp.1 hx;have:=hi x h1;have h3:¬x.id<i.id:=by simpa using h2
  omega
 .obtain ⟨h1,h2⟩:=zp.1 ha;have h2:a.id<i.id:=by simpa using h2
  rcases zI.1 hb with rfl|hb
  .exact h2
  .obtain ⟨h3,h4⟩:=zp.1 hb;have h4:¬b.id<i.id:=by simpa using h4
   omega
theorem nX(l:List It)(i:It):(aY l i).length=l.length+1:=by
 have:(l.filter λx=>decide (x.id<i.id)).length+(l.filter λx=>!decide (x.id<i.id)).length=l.length:=by
  induction l with
  |nil=>rfl
  |cons a l ih=>
   by_cases h:a.id<i.id
   .simp only[List.filter_cons,h,decide_true,if_true,Bool.not_true,Za,if_false,zY];omega
   .simp only[List.filter_cons,h,decide_false,Za,if_false,Bool.not_false,if_true,zY];omega
 simp only[aY,zC,zY];omega
def asgS(x:LB)(n:Nat)(K:St->Prop):AX->St->Prop
 |.normal,s=>DW s.bs n x ((⟨s.env,s.bs.set n .dead,s.lo⟩:St).fo false K)
 |_,_=>False
structure RndN(s:St)(n:Nat)(x:LB)(R:AV->List Box->Prop):Prop where
 out:∃s3,au s s3/\R (.bool true) (s3.bs.set n (.loop x))
def rndS(n:Nat)(x:LB)(R:AV->List Box->Prop):AX->St->Prop
 |.normal,s=>RndN s n x R
 |_,_=>False
theorem ja.run{P:Program}{g:Opd}{ps:List Nat}{a b:RC}{s:St}{Q:AX->St->Prop}(s0:St){gf:FuncId}{lb:List AV}(hw:az s s0)(hg:s0.ev g=.fn (.func gf) [] lb)(hbd:dS P gf=true)
  (h:∀x:LB,(∀y bs R,ag bs s0.bs.length=some x->y.length=ps.length->((⟨jU (eU s0.env) ps y,bs,bs.length⟩:St).fo false λs1=>a.gp P false s1 (asgS x s0.bs.length λs2=>b.gp P false s2 (rndS s0.bs.length x R)))->my P s0.bs.length y bs R)->
   ∃QQ,AM.Sem P gf ((.yl s0.bs.length::lb).map AV.norm) (s0.bs++[.loop x]) QQ/\∀r bs',QQ r bs'->ag bs' s0.bs.length=some x/\(⟨s0.env,bs'.set s0.bs.length .dead,s0.lo⟩:St).fo false λs'=>Q .normal s'):ja P g ps a b s Q:=by
 refine⟨s0,hw.out,?_⟩;rw[hg];refine⟨hbd,λx hx=>?_⟩
 obtain⟨QQ,h1,h2⟩:=h x λy bs R hb hl hr=>hx y bs R hb hl (by
  rw[St.cX] at hr;refine RC.wp_mono (λe s1 h1=>?_) (RC.lx hr)
  cases e with
  |normal=>
   refine⟨h1.h,?_⟩;have h3:=h1.k;rw[St.cX] at h3;refine RC.wp_mono (λe s3 h4=>?_) (RC.lx h3)
   cases e with
   |normal=>exact h4.out
   |ret=>exact h4.elim
   |exit id=>exact h4.elim
  |ret=>exact h1.elim
  |exit id=>exact h1.elim)
 refine⟨QQ,h1,λr bs' hr=>?_⟩;obtain⟨h3,h4⟩:=h2 r bs' hr;rw[St.cX] at h4;exact .inl ⟨h3,h4⟩
end Go.CK
