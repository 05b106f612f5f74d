/-
  Texts of this aX joined (wip/gen/bundle.py),those declarations only that are needed:RcAri RcBnd BdA BdB SbA SbB BnA BnB BnC BnD ArithM EvalM ArmA. By an AI agent.
-/
import Derived.Test.YtpihbplamelcnaaGreatBbc
set_option linter.unusedSimpArgs false
set_option linter.unusedVariables false
set_option maxRecDepth 100000
namespace Go.CK
open Go.AM Go.Proofs
variable{vals:List AV}{bs:List Box}{Q:AV->List Box->Prop}
def Bv:RC:=
 (.seq (rR [1] [oQ 1 (.box 0),oQ 2 (.mov (.c (.int .i64 0))),oQ 3 (.mov (.c (.int .i64 0)))]) (.seq (.block 0 (.seq (rR [1,8] [qF 9 0 1,qL 10 9,oQ 11 (.bin .eql 10 (.c (.int .i64 1))),qM 8 11]) (.cond 8 (.seq (rR [2,3] [oQ 2 (.mov (.c (.int .i64 0))),oQ 3 (.mov (.c (.int .i64 17)))]) .ret) (.seq (rR [1,12] [qF 13 0 1,qL 14 13,oQ 15 (.bin .eql 14 (.c (.int .i64 0))),qM 16 15,oG 17 16 true (.aS 1 1),oG 18 16 true (.load false 1 17),oG 19 16 true (.aE 1 [18]),oG 20 16 true (cF 138 [19]),oQ 21 (.pick 16 20 (.c (.bool false))),qM 12 21]) (.cond 12 (.seq (rR [2,3] [qF 22 1 1,qL 23 22,qM 2 23,oQ 3 (.mov (.c (.int .i64 0)))]) .ret) (.seq (rR [1,24] [qF 25 0 1,qL 26 25,oQ 27 (.bin .eql 26 (.c (.int .i64 0))),qM 24 27]) (.cond 24 (.seq (rR [2,3] [oQ 2 (.mov (.c (.int .i64 0))),oQ 3 (.mov (.c (.int .i64 5)))]) .ret) (.seq (rR [1,28] [qA 29 4 1,oQ 30 (cF 139 [29]),oQ 31 (.un .not 30),qM 28 31])
 (.cond 28 (.seq (rR [2,3] [oQ 2 (.mov (.c (.int .i64 0))),oQ 3 (.mov (.c (.int .i64 11)))]) .ret) .skip))))))))) (.seq (rR [1,4] [oQ 4 (.box (.c (.agg [(.int .i64 0),(.int .i64 0)])))]) (.seq (.seq (rR [1,4,32] [oQ 32 (.mov (.c (.int .i64 0)))]) (.block 1 (.loop (.seq (rR [1,4,32,33] [oQ 33 (.bin .lss 32 (.c (.int .i64 2)))]) (.seq (.cond 33 .skip (.exit 1)) (.seq (.block 2 (.seq (rR [1,4,5,32] [qM 34 32,qM 5 34]) (.seq (rR [1,4,5,6,7,32] [qF 36 3 1,qL 37 36,qM 38 5,qI 39 4 37 38,qA 40 4 39,oQ 41 (cF 115 [40]),qM 35 41,oQ 42 (.ext 0 35),oQ 43 (.ext 1 35),qM 6 42,qM 7 43]) (.seq (.seq (rR [1,4,5,6,7,32,45] [qM 44 7,oQ 45 (.bin .neq 44 (.c (.int .i64 0)))]) (.cond 45 (.seq (rR [2,3] [qM 46 7,oQ 2 (.mov (.c (.int .i64 0))),qM 3 46]) .ret) .skip)) (rR [1,4,32] [qM 47 5,qM 48 6,oQ 49 (.oE 2 1 4 47),oN (.store 1 49 48)]))))) (rR [1,4,32] [
 oQ 50 (.bin .add 32 (.c (.int .i64 1))),qM 32 50]))))))) (.seq (rR [2,3] [qF 51 2 1,qL 52 51,oQ 53 (.oE 2 1 4 (.c (.int .i64 0))),qL 54 53,oQ 55 (.oE 2 1 4 (.c (.int .i64 1))),qL 56 55,oQ 57 (cF 140 [52,54,56]),oQ 58 (.ext 0 57),oQ 59 (.ext 1 57),qM 2 58,qM 3 59]) .ret)))))
theorem eI(hn:vals.length<=60)(h:SP Tryz.prog true vals bs Bv [.slot 2,.slot 3] Q):AM.Sem Tryz.prog 115 vals bs Q:=
 oZ (keeps:=[(0,[1]),(1,[1,8]),(3,[1,12]),(5,[1,24]),(7,[1,28]),(8,[2,3]),(6,[2,3]),(4,[2,3]),(2,[2,3]),(9,[1,4]),(10,[1,4,32]),(11,[1,4,32,33]),(12,[1,4,5,32]),(13,[1,4,5,6,7,32]),(14,[1,4,5,6,7,32,45]),(15,[2,3]),(16,[1,4,32]),(17,[1,4,32]),(18,[2,3])]) (solo:=[]) Tryz.func115 rfl hn h
def sL:RC:=
 (.seq (rR [1] [oQ 1 (.box 0),oQ 2 (.mov (.c (.bool false)))]) (.seq (rR [2] [qF 3 0 1,qL 4 3,oQ 5 (.bin .eql 4 (.c (.int .i64 2))),qM 6 5,oG 7 6 true (.aS 3 1),oG 8 6 true (.load false 1 7),oG 9 6 true (.len false 8),oG 10 6 true (.bin .eql 9 (.c (.int .i64 2))),oQ 11 (.pick 6 10 (.c (.bool false))),qM 12 11,oG 13 12 true (.aS 2 1),oG 14 12 true (.load false 1 13),oG 15 12 true (cF 158 [14]),oG 16 12 true (.more (.eqF true) [15,(.c .nfn)]),oQ 17 (.pick 12 16 (.c (.bool false))),qM 2 17]) .ret))
theorem bA(hn:vals.length<=18)(h:SP Tryz.prog true vals bs sL [.slot 2] Q):AM.Sem Tryz.prog 139 vals bs Q:=
 oZ (keeps:=[(0,[1]),(1,[2])]) (solo:=[]) Tryz.func139 rfl hn h
def Fc:RC:=
 (.seq (rR [0] [oQ 2 (.mov (.c .nfn))]) (.seq (.seq (rR [3] [qM 3 0]) (.block 0 (.seq (rR [3,4] [oQ 5 (.bin .eql 3 (.c (.str ⟨⟨[43]⟩⟩))),qM 4 5]) (.cond 4 (.seq (rR [2] [oQ 2 (.mov (.c (.fn (.func 174) [] [])))]) .ret) (.seq (rR [3,6] [oQ 7 (.bin .eql 3 (.c (.str ⟨⟨[45]⟩⟩))),qM 6 7]) (.cond 6 (.seq (rR [2] [oQ 2 (.mov (.c (.fn (.func 175) [] [])))]) .ret) (.seq (rR [3,8] [oQ 9 (.bin .eql 3 (.c (.str ⟨⟨[42]⟩⟩))),qM 8 9]) (.cond 8 (.seq (rR [2] [oQ 2 (.mov (.c (.fn (.func 176) [] [])))]) .ret) (.seq (rR [3,10] [oQ 11 (.bin .eql 3 (.c (.str ⟨⟨[47]⟩⟩))),qM 10 11]) (.cond 10 (.seq (rR [2] [oQ 12 (cF 177 [(.c (.fn (.func 178) [] []))]),qM 2 12]) .ret) (.seq (rR [13] [oQ 14 (.bin .eql 3 (.c (.str ⟨⟨[37]⟩⟩))),qM 13 14]) (.cond 13 (.seq (rR [2] [oQ 15 (cF 177 [(.c (.fn (.func 179) [] []))]),qM 2 15]) .ret) .skip)))))))))))) (.seq (rR [2] [oQ 2 (.mov (.c .nfn))]) .ret)))
theorem di(hn:vals.length<=16)(h:SP Tryz.prog true vals bs Fc [.slot 2] Q):AM.Sem Tryz.prog 158 vals bs Q:=
 oZ (keeps:=[(0,[0]),(1,[3]),(2,[3,4]),(4,[3,6]),(6,[3,8]),(8,[3,10]),(10,[13]),(11,[2]),(9,[2]),(7,[2]),(5,[2]),(3,[2]),(12,[2])]) (solo:=[]) Tryz.func158 rfl hn h
def ue:RC:=
 (.seq (rR [0] [oQ 2 (.mov (.c (.bool false)))]) (.seq (.seq (rR [5,6,7] [qM 5 0,oQ 6 (.len false 5),oQ 7 (.mov (.c (.int .i64 0)))]) (.block 0 (.loop (.seq (rR [5,6,7,8] [oQ 8 (.bin .lss 7 6)]) (.seq (.cond 8 .skip (.exit 0)) (.seq (.block 1 (.seq (rR [4,5,6,7] [qI 9 1 5 7,qL 10 9,qM 4 10]) (.seq (rR [5,6,7,16] [qM 11 4,oQ 12 (.bin .lss 11 (.c (.int .i64 (-2147483648)))),qM 13 12,oG 14 13 false (.mov 4),oG 15 13 false (.bin .gtr 14 (.c (.int .i64 2147483648))),oQ 16 (.pick 13 (.c (.bool true)) 15)]) (.cond 16 (.seq (rR [2] [oQ 2 (.mov (.c (.bool false)))]) .ret) .skip)))) (rR [5,6,7] [oQ 17 (.bin .add 7 (.c (.int .i64 1))),qM 7 17]))))))) (.seq (rR [2] [oQ 2 (.mov (.c (.bool true)))]) .ret)))
theorem uv(hn:vals.length<=18)(h:SP Tryz.prog true vals bs ue [.slot 2] Q):AM.Sem Tryz.prog 138 vals bs Q:=
 oZ (keeps:=[(0,[0]),(1,[5,6,7]),(2,[5,6,7,8]),(3,[4,5,6,7]),(4,[5,6,7,16]),(5,[2]),(6,[5,6,7]),(7,[2])]) (solo:=[]) Tryz.func138 rfl hn h
def xG:RC:=
 (.seq (rR [0,1,2] [oQ 6 (.mov (.c (.int .i64 0))),oQ 7 (.mov (.c (.int .i64 0)))]) (.seq (rR [1,2,8] [qM 11 0,oQ 12 (cF 158 [11]),qM 8 12]) (.seq (.seq (rR [1,2,8,14] [qM 13 8,oQ 14 (.more (.eqF false) [13,(.c .nfn)])]) (.cond 14 (.seq (rR [6,7] [oQ 6 (.mov (.c (.int .i64 0))),oQ 7 (.mov (.c (.int .i64 7)))]) .ret) .skip)) (.seq (.seq (rR [1,2,8,19] [qM 15 1,qM 16 2,oQ 17 (.aE 1 [15,16]),oQ 18 (cF 138 [17]),oQ 19 (.un .not 18)]) (.cond 19 (.seq (rR [6,7] [oQ 6 (.mov (.c (.int .i64 0))),oQ 7 (.mov (.c (.int .i64 5)))]) .ret) .skip)) (.seq (rR [9,10] [qM 21 8,qM 22 1,qM 23 2,oQ 24 (.fh 21 [22,23]),qM 20 24,oQ 25 (.ext 0 20),oQ 26 (.ext 1 20),qM 9 25,qM 10 26]) (.seq (.seq (rR [9,10,34] [qM 27 10,oQ 28 (.bin .eql 27 (.c (.int .i64 0))),qM 29 28,oG 30 29 true (.mov 9),oG 31 29 true (.aE 1 [30]),oG 32 29 true (cF 138 [31]),oG 33 29 true (.un .not 32),oQ 34 (.pick 29 33 (.c (.bool false)))])
 (.cond 34 (rR [9,10] [oQ 10 (.mov (.c (.int .i64 5)))]) .skip)) (.seq (.seq (rR [9,10,36] [qM 35 10,oQ 36 (.bin .neq 35 (.c (.int .i64 0)))]) (.cond 36 (.seq (rR [6,7] [qM 37 10,oQ 6 (.mov (.c (.int .i64 0))),qM 7 37]) .ret) .skip)) (.seq (rR [6,7] [qM 38 9,qM 6 38,oQ 7 (.mov (.c (.int .i64 0)))]) .ret))))))))
theorem aC(hn:vals.length<=39)(h:SP Tryz.prog true vals bs xG [.slot 6,.slot 7] Q):AM.Sem Tryz.prog 140 vals bs Q:=
 oZ (keeps:=[(0,[0,1,2]),(1,[1,2,8]),(2,[1,2,8,14]),(3,[6,7]),(4,[1,2,8,19]),(5,[6,7]),(6,[9,10]),(7,[9,10,34]),(8,[9,10]),(9,[9,10,36]),(10,[6,7]),(11,[6,7])]) (solo:=[]) Tryz.func140 rfl hn h
def uf:RC:=
 (.seq (rR [1] [oQ 1 (.box 0),oQ 2 (.mov (.c .nfn))]) (.seq (rR [2] [oQ 3 (.yk (.func 184) [] [1]),qM 2 3]) .ret))
theorem ei(hn:vals.length<=4)(h:SP Tryz.prog true vals bs uf [.slot 2] Q):AM.Sem Tryz.prog 177 vals bs Q:=
 oZ (keeps:=[(0,[1]),(1,[2])]) (solo:=[]) Tryz.func177 rfl hn h
def sK:RC:=
 (.seq (rR [0,1] [oQ 4 (.mov (.c (.int .i64 0)))]) (.seq (rR [0,1,5] [qM 6 0,qM 7 1,oQ 8 (.bin .quo 6 7),qM 5 8]) (.seq (.seq (rR [5,19] [qM 9 0,qM 10 1,oQ 11 (.bin .rem 9 10),oQ 12 (.bin .neq 11 (.c (.int .i64 0))),qM 13 12,oG 14 13 true (.mov 0),oG 15 13 true (.bin .lss 14 (.c (.int .i64 0))),oG 16 13 true (.mov 1),oG 17 13 true (.bin .lss 16 (.c (.int .i64 0))),oG 18 13 true (.more (.eqB true) [15,17]),oQ 19 (.pick 13 18 (.c (.bool false)))]) (.cond 19 (rR [5] [qM 20 5,oQ 21 (.bin .sub 20 (.c (.int .i64 1))),qM 5 21]) .skip)) (.seq (rR [4] [qM 22 5,qM 4 22]) .ret))))
theorem sX(hn:vals.length<=23)(h:SP Tryz.prog true vals bs sK [.slot 4] Q):AM.Sem Tryz.prog 178 vals bs Q:=
 oZ (keeps:=[(0,[0,1]),(1,[0,1,5]),(2,[5,19]),(3,[5]),(4,[4])]) (solo:=[]) Tryz.func178 rfl hn h
def Bu:RC:=
 (.seq (rR [0,1] [oQ 4 (.mov (.c (.int .i64 0))),oQ 5 (.mov (.c (.int .i64 0)))]) (.seq (rR [4,5] [qM 6 0,qM 7 1,oQ 8 (.bin .add 6 7),qM 4 8,oQ 5 (.mov (.c (.int .i64 0)))]) .ret))
theorem BE(hn:vals.length<=9)(h:SP Tryz.prog true vals bs Bu [.slot 4,.slot 5] Q):AM.Sem Tryz.prog 174 vals bs Q:=
 oZ (keeps:=[(0,[0,1]),(1,[4,5])]) (solo:=[]) Tryz.func174 rfl hn h
def Bt:RC:=
 (.seq (rR [0,1] [oQ 4 (.mov (.c (.int .i64 0))),oQ 5 (.mov (.c (.int .i64 0)))]) (.seq (rR [4,5] [qM 6 0,qM 7 1,oQ 8 (.bin .sub 6 7),qM 4 8,oQ 5 (.mov (.c (.int .i64 0)))]) .ret))
theorem BD(hn:vals.length<=9)(h:SP Tryz.prog true vals bs Bt [.slot 4,.slot 5] Q):AM.Sem Tryz.prog 175 vals bs Q:=
 oZ (keeps:=[(0,[0,1]),(1,[4,5])]) (solo:=[]) Tryz.func175 rfl hn h
def Bs:RC:=
 (.seq (rR [0,1] [oQ 4 (.mov (.c (.int .i64 0))),oQ 5 (.mov (.c (.int .i64 0)))]) (.seq (rR [4,5] [qM 6 0,qM 7 1,oQ 8 (.bin .mul 6 7),qM 4 8,oQ 5 (.mov (.c (.int .i64 0)))]) .ret))
theorem BC(hn:vals.length<=9)(h:SP Tryz.prog true vals bs Bs [.slot 4,.slot 5] Q):AM.Sem Tryz.prog 176 vals bs Q:=
 oZ (keeps:=[(0,[0,1]),(1,[4,5])]) (solo:=[]) Tryz.func176 rfl hn h
def Br:RC:=
 (.seq (rR [0,1] [oQ 4 (.mov (.c (.int .i64 0)))]) (.seq (rR [4] [qM 5 0,qM 6 0,qM 7 1,oQ 8 (cF 178 [6,7]),qM 9 1,oQ 10 (.bin .mul 8 9),oQ 11 (.bin .sub 5 10),qM 4 11]) .ret))
theorem BB(hn:vals.length<=12)(h:SP Tryz.prog true vals bs Br [.slot 4] Q):AM.Sem Tryz.prog 179 vals bs Q:=
 oZ (keeps:=[(0,[0,1]),(1,[4])]) (solo:=[]) Tryz.func179 rfl hn h
def rG:RC:=
 (.seq (rR [0,1,2] [oQ 5 (.mov (.c (.int .i64 0))),oQ 6 (.mov (.c (.int .i64 0)))]) (.seq (.seq (rR [0,1,2,8] [qM 7 1,oQ 8 (.bin .eql 7 (.c (.int .i64 0)))]) (.cond 8 (.seq (rR [5,6] [oQ 5 (.mov (.c (.int .i64 0))),oQ 6 (.mov (.c (.int .i64 12)))]) .ret) .skip)) (.seq (rR [5,6] [qL 9 2,qM 10 0,qM 11 1,oQ 12 (.fh 9 [10,11]),qM 5 12,oQ 6 (.mov (.c (.int .i64 0)))]) .ret)))
theorem dk(hn:vals.length<=13)(h:SP Tryz.prog true vals bs rG [.slot 5,.slot 6] Q):AM.Sem Tryz.prog 184 vals bs Q:=
 oZ (keeps:=[(0,[0,1,2]),(1,[0,1,2,8]),(2,[5,6]),(3,[5,6])]) (solo:=[]) Tryz.func184 rfl hn h
end Go.CK
namespace Go.CK
open Go.AM Go.Proofs
variable{vals:List AV}{bs:List Box}{Q:AV->List Box->Prop}
def vQ:RC:=
 (.seq (rR [0,3,4] [oQ 3 (.box 1),oQ 4 (.box (.c (.agg [(.int .i64 0),(.int .i64 0),(.str ⟨⟨[]⟩⟩),(.sl .full [])]))),oQ 5 (.mov (.c (.bool false)))]) (.seq (rR [0,4,6] [qM 7 0,oQ 8 (.yk (.func 166) [] [3]),oQ 9 (cF 165 [7,8]),qM 6 9]) (.seq (.seq (rR [0,4,6,11] [qM 10 6,oQ 11 (.bin .lss 10 (.c (.int .i64 0)))]) (.cond 11 (.seq (rR [4,5] [oQ 12 (.build [(.int .i64 0),(.int .i64 0),(.str ⟨⟨[]⟩⟩),(.sl .full [])] []),oN (.store 4 4 12),oQ 5 (.mov (.c (.bool false)))]) .ret) .skip)) (.seq (rR [4,5] [qM 13 0,qM 14 6,qI 15 5 13 14,qF 16 1 15,qA 17 4 16,oN (.store 4 4 17),oQ 5 (.mov (.c (.bool true)))]) .ret))))
theorem vV(hn:vals.length<=18)(h:SP Tryz.prog true vals bs vQ [.cell 4 true 4,.slot 5] Q):AM.Sem Tryz.prog 143 vals bs Q:=
 oZ (keeps:=[(0,[0,3,4]),(1,[0,4,6]),(2,[0,4,6,11]),(3,[4,5]),(4,[4,5])]) (solo:=[]) Tryz.func143 rfl hn h
def xy:RC:=
 (.seq (rR [0,3,4] [oQ 3 (.box 1),oQ 4 (.box (.c (.agg [(.int .i64 0),(.int .i64 0),(.str ⟨⟨[]⟩⟩),(.sl .full [])])))]) (.seq (.seq (rR [0,3,4,8] [qF 7 0 3,qL 8 7]) (.block 0 (.seq (rR [0,3,4,8,9] [oQ 10 (.bin .eql 8 (.c (.int .i64 1))),qM 9 10]) (.cond 9 (.seq (rR [3,4,5,6] [qM 12 0,qF 13 1 3,qL 14 13,oQ 15 (cF 143 [12,14]),qM 11 15,oQ 16 (.ext 0 11),oQ 17 (.ext 1 11),oQ 5 (.box (.c (.agg [(.int .i64 0),(.int .i64 0),(.str ⟨⟨[]⟩⟩),(.sl .full [])]))),oN (.store 4 5 16),qM 6 17]) (.seq (rR [3,4,5,18] [qM 18 6]) (.cond 18 (.seq (rR [4] [qA 19 4 5,oN (.store 4 4 19)]) .ret) .skip))) (.seq (rR [0,3,4,20] [oQ 21 (.bin .eql 8 (.c (.int .i64 2))),qM 20 21]) (.cond 20 (rR [3,4] [qM 22 0,qF 23 3 3,qL 24 23,oQ 25 (cF 104 [22,24]),qF 26 3 3,oN (.store 1 26 25)]) .skip)))))) (.seq (rR [4] [qA 27 4 3,oN (.store 4 4 27)]) .ret)))
theorem xR(hn:vals.length<=28)(h:SP Tryz.prog true vals bs xy [.cell 4 true 4] Q):AM.Sem Tryz.prog 126 vals bs Q:=
 oZ (keeps:=[(0,[0,3,4]),(1,[0,3,4,8]),(2,[0,3,4,8,9]),(6,[0,3,4,20]),(7,[3,4]),(3,[3,4,5,6]),(4,[3,4,5,18]),(5,[4]),(8,[4])]) (solo:=[]) Tryz.func126 rfl hn h
def tY:RC:=
 (.seq (rR [0,1] [oQ 4 (.mov (.c (.sl .full [])))]) (.seq (rR [0,5] [qM 7 1,oQ 8 (cF 125 [7]),qM 5 8]) (.seq (.seq (rR [0,5,10,11] [qM 9 5,oQ 10 (.len false 9),oQ 11 (.mov (.c (.int .i64 0)))]) (.block 0 (.loop (.seq (rR [0,5,10,11,12] [oQ 12 (.bin .lss 11 10)]) (.seq (.cond 12 .skip (.exit 0)) (.seq (.block 1 (.seq (rR [0,5,6,10,11] [qM 13 11,qM 6 13]) (rR [0,5,10,11] [qM 14 5,qM 15 6,qM 16 0,qM 17 5,qM 18 6,qI 19 4 17 18,qA 20 4 19,oQ 21 (cF 126 [16,20]),qI 22 4 14 15,oN (.store 4 22 21)]))) (rR [0,5,10,11] [oQ 23 (.bin .add 11 (.c (.int .i64 1))),qM 11 23]))))))) (.seq (rR [4] [qM 24 5,qM 4 24]) .ret))))
theorem uo(hn:vals.length<=25)(h:SP Tryz.prog true vals bs tY [.slot 4] Q):AM.Sem Tryz.prog 104 vals bs Q:=
 oZ (keeps:=[(0,[0,1]),(1,[0,5]),(2,[0,5,10,11]),(3,[0,5,10,11,12]),(4,[0,5,6,10,11]),(5,[0,5,10,11]),(6,[0,5,10,11]),(7,[4])]) (solo:=[]) Tryz.func104 rfl hn h
def sI:RC:=
 (.seq (rR [1,2] [oQ 2 (.box 0),oQ 3 (.mov (.c (.bool false)))]) (.seq (rR [3] [qF 4 0 2,qL 5 4,qL 6 1,oQ 7 (.bin .eql 5 6),qM 3 7]) .ret))
theorem sV(hn:vals.length<=8)(h:SP Tryz.prog true vals bs sI [.slot 3] Q):AM.Sem Tryz.prog 166 vals bs Q:=
 oZ (keeps:=[(0,[1,2]),(1,[3])]) (solo:=[]) Tryz.func166 rfl hn h
def dP:RC:=
 (.seq (rR [0,1] [oQ 4 (.mov (.c (.int .i64 0)))]) (.seq (.seq (rR [0,1,7,8] [qM 6 0,oQ 7 (.len false 6),oQ 8 (.mov (.c (.int .i64 0)))]) (.block 0 (.loop (.seq (rR [0,1,7,8,9] [oQ 9 (.bin .lss 8 7)]) (.seq (.cond 9 .skip (.exit 0)) (.seq (.block 1 (.seq (rR [0,1,5,7,8] [qM 10 8,qM 5 10]) (.seq (rR [0,1,5,7,8,16] [qM 11 1,qM 12 0,qM 13 5,qI 14 5 12 13,qA 15 5 14,oQ 16 (.fh 11 [15])]) (.cond 16 (.seq (rR [4] [qM 17 5,qM 4 17]) .ret) .skip)))) (rR [0,1,7,8] [oQ 18 (.bin .add 8 (.c (.int .i64 1))),qM 8 18]))))))) (.seq (rR [4] [oQ 4 (.mov (.c (.int .i64 (-1))))]) .ret)))
theorem dR(hn:vals.length<=19)(h:SP Tryz.prog true vals bs dP [.slot 4] Q):AM.Sem Tryz.prog 165 vals bs Q:=
 oZ (keeps:=[(0,[0,1]),(1,[0,1,7,8]),(2,[0,1,7,8,9]),(3,[0,1,5,7,8]),(4,[0,1,5,7,8,16]),(5,[4]),(6,[0,1,7,8]),(7,[4])]) (solo:=[]) Tryz.func165 rfl hn h
def fk:RC:=
 (.seq (rR [0] [oQ 2 (.mov (.c (.sl .full [])))]) (.seq (.seq (rR [0,4] [qM 3 0,oQ 4 (.eff (.HB false) [3])]) (.cond 4 (.seq (rR [2] [oQ 2 (.mov (.c (.sl .full [])))]) .ret) .skip)) (.seq (rR [2] [oQ 5 (.aE 4 []),qM 6 0,oQ 7 (.eff (.uZ 4) [5,6]),qM 2 7]) .ret)))
theorem fm(hn:vals.length<=8)(h:SP Tryz.prog true vals bs fk [.slot 2] Q):AM.Sem Tryz.prog 125 vals bs Q:=
 oZ (keeps:=[(0,[0]),(1,[0,4]),(2,[2]),(3,[2]),(1000000,[7])]) (solo:=[]) Tryz.func125 rfl hn h
end Go.CK
namespace Go.CK
open Go.AM
end Go.CK
namespace Go.CK
open Go.AM
theorem Jy(σ M:Int->Tm)(t:Tm):app σ (app M t)=app (λv=>app σ (M v)) t:=by
 induction t using Tm.bK with
 |h k n s l ih=>
 generalize ha:Tm.mk k n s l=t;replace ih:∀x∈t.args,app σ (app M x)=app (λv=>app σ (M v)) x:=by subst ha;exact ih
 clear ha
 by_cases h1:t.kind=1
 .rw [app_1 h1,app_1 h1]
 .by_cases h2:t.kind=2
  .rw [vK h2,vK (show (Tm.mk t.kind t.num t.name (t.args.map (app M))).kind=2 from h2),vK h2];simp only[Tm.kind,Tm.num,Tm.name,Tm.args,List.map_map];congr 1;exact List.map_congr_left λx hx=>ih x hx
  .rw [C3 h1 h2,C3 h1 h2,C3 h1 h2]
end Go.CK
namespace Go.CK
open Go.AM Go.Proofs
theorem KK{l:List Tm}(hl:l.length<=4294967296):AM.Sem Tryz.prog 125 [.sl .no (l.map Tm.av)] [] λr bs'=>∃k,l.length<=k/\r=.bsl 0 l.length k/\bs'=[aZ tmA 4 k (l.map some)]:=by
 refine fm (by simp) ?_
 conv=>whnf
 skip;refine OE.no λb hb=>?_
 conv=>whnf
 repeat' (refine gC ?_;refine ak.any (λhc=>?_) (λhc=>?_))<;>conv=>whnf
 .have hl0:l=[]:=by simpa using hb hc
  subst hl0;exact ae.wT 2 rfl (ae.slot ⟨0,zG _,rfl,rfl⟩)
 .rw [<-wU];refine sb.L5 (l':=l.map some) iv (by rw[zF];exact hl) λk hk=>?_
  conv=>whnf
  skip;rw[zF] at hk;exact ae.slot ⟨k,hk,by simp[St.get,au],rfl⟩
def Mp(b:List Bnd)(v:Int):Int:=match b.findIdx? λx=>decide (x.v=v) with
 |none=>-1
 |some i=>i
theorem Ja{b:List Bnd}{v:Int}(h:∀(i:Nat) (x:Bnd),b[i]? =some x->¬x.v=v):Mp b v=-1/\bR b v=none:=by
 have h1:b.findIdx? (λx=>decide (x.v=v))=none:=by
  rw[List.findIdx?_eq_none_iff];intro x hx;obtain⟨i,hi⟩:=ZS hx;exact decide_eq_false (h i x hi)
 refine⟨by unfold Mp;rw[h1],?_⟩
 induction b with
 |nil=>rfl
 |cons y b ih=>
  rw[bR,if_neg (h 0 y rfl)];refine ih (λi x hx=>h (i+1) x (by simpa using hx)) ?_
  rw[List.findIdx?_eq_none_iff] at h1|-;exact λx hx=>h1 x (zQ _ hx)
theorem Jb{b:List Bnd}{v:Int}{i:Nat}{x:Bnd}(hx:b[i]? =some x)(hv:x.v=v)(h:∀(j:Nat) (y:Bnd),j<i->b[j]? =some y->¬y.v=v):Mp b v=i/\bR b v=some x.t:=by
 have h1:b.findIdx? (λx=>decide (x.v=v))=some i:=by
  rw[List.findIdx?_eq_some_iff_getElem];obtain⟨hi,he⟩:=zB.1 hx;refine⟨hi,by rw[he];exact decide_eq_true hv,λj hj=>?_⟩
  have:=h j _ hj (zA (by omega))
  simpa using this
 refine⟨by unfold Mp;rw[h1],?_⟩
 clear h1
 induction b generalizing i with
 |nil=>simp at hx
 |cons y b ih=>
  cases i with
  |zero=>
   simp at hx;subst hx
   rw[bR,if_pos hv]
  |succ i=>
   rw[bR,if_neg (h 0 y (by omega) rfl)]
   exact ih (by simpa using hx) λj z hj hz=>h (j+1) z (by omega) (by simpa using hz)
theorem FG(x:Bnd)(v:Int):AM.Sem Tryz.prog 166 [x.av,.ptr 0 0] [.cells [.int .i64 v]] λr bs'=>r=.bool (decide (x.v=v))/\bs'=[.cells [.int .i64 v]]:=by
 refine sV (by simp) ?_
 conv=>whnf
 skip;refine ae.lay [some 0] oko ?_
 conv=>whnf
 repeat' refine ae.nrm ?_<;>conv=>whnf
 exact⟨rfl,rfl⟩
theorem Kk{b:List Bnd}{v:Int}(hb:b.length<=4000000000):AM.Sem Tryz.prog 165 [.sl .no (b.map Bnd.av),.fn (.func 166) [] [.ptr 0 0]] [.cells [.int .i64 v]] λr bs'=>r=.int .i64 (Mp b v)/\bs'=[.cells [.int .i64 v]]:=by
 refine dR (by simp) ?_
 conv=>whnf
 repeat' refine gL (.map ?_)<;>conv=>whnf
 refine ax.by (fb:=true) (λ_ (j:Nat)=>⟨[(0,.sl .no (b.map Bnd.av)),(1,.fn (.func 166) [] [.ptr 0 0]),(7,.int .i64 (b.length:Int)),(8,.int .i64 (j:Int))],[.cells [.int .i64 v]],1⟩) (λj=>j<=b.length/\∀(i:Nat) (x:Bnd),i<j->b[i]? =some x->¬x.v=v) (λj=>b.length-j) 0 ⟨zJ _,λi x h=>by omega⟩ ?_ ?_
 .exact aH
 .rintro j ⟨q1,q2⟩
  by_cases hj:j<b.length
  .obtain ⟨x,hx⟩:∃x,b[j]? =some x:=⟨_,zA hj⟩
   by_cases hv:x.v=v
   .obtain ⟨h1,_⟩:=Jb hx hv q2;have hl:=FG x v;rw[decide_eq_true hv] at hl;rw[h1]
    conv=>whnf
    repeat' (first|refine gC (gD (cI ?_))|refine gI (gM (iE ?_))|refine gH (hB ?_))<;>conv=>whnf
    refine aa.ate [0] hl rfl rfl ?_
    conv=>whnf
    repeat' (first|refine gC (cY ?_)|refine ae.nrm ?_)<;>conv=>whnf
    exact⟨rfl,rfl⟩
   .have hl:=FG x v;rw[decide_eq_false hv] at hl
    conv=>whnf
    repeat' (first|refine gC (gD (cI ?_))|refine gI (gM (iE ?_))|refine gH (hB ?_))<;>conv=>whnf
    refine aa.ate [0] hl rfl rfl ?_
    conv=>whnf
    repeat' (first|refine gC (cN ?_)|refine gW (wI ?_))<;>conv=>whnf
    refine⟨j+1,⟨⟨hj,λi y hi hy=>?_⟩,by omega⟩,?_⟩
    .by_cases e:i=j
     .subst e;rw[hx] at hy;cases hy;exact hv
     .exact q2 i y (by omega) hy
    exact aH
  .obtain rfl:j=b.length:=by omega
   obtain⟨h1,_⟩:=Ja (v:=v) λi x hx=>q2 i x (zB.1 hx).1 hx;rw[h1]
   conv=>whnf
   repeat' (first|refine gC (gD (cJ ?_))|refine ae.nrm ?_)<;>conv=>whnf
   exact⟨rfl,rfl⟩
theorem Kg(b:List Bnd)(v:Int)(hb:b.length<=4000000000):Fun Tryz.prog 143 [.sl .no (b.map Bnd.av),.int .i64 v] (yr (bR b v)):=by
 refine Fun.of (vV (by simp) ?_) rfl (Cu _)
 have hi:=Kk (v:=v) hb
 by_cases h:∃(i:Nat) (x:Bnd),b[i]? =some x/\x.v=v/\∀(j:Nat) (y:Bnd),j<i->b[j]? =some y->¬y.v=v
 .obtain ⟨i,x,hx,hv,hj⟩:=h;obtain⟨h1,h2⟩:=Jb hx hv hj;have hil:=(zB.1 hx).1;rw[h1] at hi;rw[h2]
  conv=>whnf
  skip;refine aa.ate [0] hi rfl rfl ?_
  conv=>whnf
  repeat' (first|refine gC (gD (cJ ?_))|refine gI (gM (iE ?_)))<;>conv=>whnf
  refine ae.lay [some 1] oko ?_
  conv=>whnf
  repeat' refine ae.nrm ?_<;>conv=>whnf
  rfl
 .have hno:∀(i:Nat) (x:Bnd),b[i]? =some x->¬x.v=v:=by
   intro i
   induction i using Nat.strongRecOn with
   |ind i ih=>exact λx hx hv=>h ⟨i,x,hx,hv,λj y hj hy=>ih j hj y hy⟩
  obtain⟨h1,h2⟩:=Ja hno;rw[h1] at hi;rw[h2]
  conv=>whnf
  skip;refine aa.ate [0] hi rfl rfl ?_
  conv=>whnf
  repeat' refine gC (gD (cI ?_))<;>conv=>whnf
  refine ae.lay [some 1] oko ?_
  conv=>whnf
  repeat' refine ae.nrm ?_<;>conv=>whnf
  rfl
theorem Lf{α:Type}{f:α->α}{l:List α}{j:Nat}{x:α}(hx:l[j]? =some x):(((l.take j).map f++l.drop j).map some)[j]? =some (some x)/\(((l.take j).map f++l.drop j).map some).set j (some (f x))=((l.take (j+1)).map f++l.drop (j+1)).map some:=by
 have hj:=(zB.1 hx).1;have hd:l.drop j=x::l.drop (j+1):=by rw[zH hj,(zB.1 hx).2]
 have hlen:((l.take j).map f).length=j:=by rw[zF,zn];omega
 constructor
 .rw [ZF,zZ (by omega),hlen,yW,hd];rfl
 .have:((l.take j).map f++l.drop j).set j (f x)=(l.take (j+1)).map f++l.drop (j+1):=by
   rw[ya _ _ (by omega),hlen,yW,hd,List.set_cons_zero,ZC,hx,Option.toList_some,zu,zg];rfl
  rw[<-List.map_set,this]
theorem A2{b:List Bnd}{l:List Tm} (hL:l.length<=4000000000) (h:∀x∈l,Fun Tryz.prog 126 [.sl .no (b.map Bnd.av),x.avw] (db b x).avw):Fun Tryz.prog 104 [.sl .no (b.map Bnd.av),.sl .no (l.map Tm.av)] (.sl .no ((l.map (db b)).map Tm.av)):=by
 refine Fun.of (Sem.assume fun _ _=>?_) rfl rfl;have hg:l.length<=4294967296:=by omega
 refine uo (by simp) ?_
 conv=>whnf
 skip;refine aa.raw (KK (l:=l) (by omega)) ?_
 rintro r bs' ⟨k,hk,rfl,rfl⟩
 conv=>whnf
 skip;refine ax.by (fb:=true) (λ_ (j:Nat)=>⟨[(0,.sl .no (b.map Bnd.av)),(5,.bsl 0 l.length k),(10,.int .i64 (l.length:Int)),(11,.int .i64 (j:Int))],[aZ tmA 4 k (((l.take j).map (db b)++l.drop j).map some)],0⟩) (λj=>j<=l.length) (λj=>l.length-j) 0 (zJ _) ?_ ?_
 .rw [ZL,Zf,Zn,yZ];exact aH
 .rintro j q1
  by_cases hj:j<l.length
  .obtain ⟨x,hx⟩:∃x,l[j]? =some x:=⟨_,zA hj⟩;obtain⟨u1,u2⟩:=Lf (f:=db b) hx;have hx1:=h x (zE hx)
   conv=>whnf
   repeat' (first|refine gC (gD (cI ?_))|refine gN (nS ?_))<;>conv=>whnf
   refine ElN.elem iv rfl u1 ?_
   conv=>whnf
   repeat' (first|refine gF (aa.fn (hx1) ?_)|refine gN (nS ?_))<;>conv=>whnf
   refine EsN.elem iv (λx=>by cases x<;>rfl) (x:=some x) (y:=some (db b x)) rfl u1 rfl ?_
   conv=>whnf
   repeat' refine gW (wI ?_)<;>conv=>whnf
   refine⟨j+1,⟨hj,by omega⟩,?_⟩
   rw[<-u2];refine ah.at_ ?_ rfl
   conv=>whnf
   refine And.intro ?_ ?_<;>conv=>whnf
   all_goals repeat' (first|(refine gV ?_;first|refine vE ?_|refine vI ?_)|(refine gX ?_;(refine BxN.mk ?_ ?_;(focus (simp[AV.norm,AV.ao,];done))))|exact True.intro)<;>conv=>whnf
  .obtain rfl:j=l.length:=by omega
   rw[zz,zj,zy]
   conv=>whnf
   repeat' refine gC (gD (cJ ?_))<;>conv=>whnf
   refine ae.froze iv (l:=(l.map (db b)).map some) (k:=k) rfl rfl (by simp) (ae.slot ?_)
   rw[wU];rfl
theorem MY(b:List Bnd)(hb:b.length<=4000000000)(t:Tm):t.nodes<=1000000->Fun Tryz.prog 126 [.sl .no (b.map Bnd.av),t.avw] (db b t).avw:=by
 induction t using Tm.bK with
 |h k n s l ih=>
 intro hN;generalize ha:Tm.mk k n s l=t at hN|-;replace ih:∀x∈t.args,x.nodes<=1000000->Fun Tryz.prog 126 [.sl .no (b.map Bnd.av),x.avw] (db b x).avw:=by subst ha;exact ih
 have hnl:Tm.aj t.args+1<=t.nodes:=by subst ha;simp only[Tm.nodes,Tm.args];omega
 have hlen:=gg t.args
 clear ha;refine Fun.of (xR (by simp) ?_) rfl rfl
 by_cases h1:t.kind=1
 .rw [Ep h1];have hl:=Kg b t.num hb
  cases hk:bR b t.num with
  |none=>
   rw[hk,yr] at hl
   conv=>whnf
   repeat' (first|refine gF (aa.fn (hl) ?_)|(refine gC ?_;first|refine cN ?_|refine gD (cI ?_)))<;>conv=>whnf
   refine ae.lay [some 1] oko ?_
   conv=>whnf
   repeat' refine ae.nrm ?_<;>conv=>whnf
   rfl
  |some x=>
   rw[hk,yr] at hl
   conv=>whnf
   repeat' (first|refine gF (aa.fn (hl) ?_)|(refine gC ?_;first|refine cY ?_|refine gD (cI ?_)))<;>conv=>whnf
   refine ae.lay [some 1] oko ?_
   conv=>whnf
   repeat' refine ae.nrm ?_<;>conv=>whnf
   rfl
 .by_cases h2:t.kind=2
  .rw [r7 h2];have hap:=A2 (by omega) fun x hx=>ih x hx (by have:=gh hx;omega)
   conv=>whnf
   repeat' (first|refine gF (aa.fn (hap) ?_)|(refine gC ?_;(refine gD ?_;first|refine cI ?_|refine cJ ?_)))<;>conv=>whnf
   refine ae.lay [some 1] oko ?_
   conv=>whnf
   repeat' refine ae.nrm ?_<;>conv=>whnf
   rfl
  .rw [r6 h1 h2]
   conv=>whnf
   repeat' refine gC (gD (cJ ?_))<;>conv=>whnf
   refine ae.lay [some 1] oko ?_
   conv=>whnf
   repeat' refine ae.nrm ?_<;>conv=>whnf
   rfl
end Go.CK
namespace Go.CK
open Go.AM Go.Proofs
end Go.CK
namespace Go.CK
open Go.AM Go.Proofs
end Go.CK
namespace Go.CK
open Go.AM Go.Proofs
end Go.CK
namespace Go.CK
open Go.AM Go.Proofs
end Go.CK
namespace Go.CK
open Go.AM Go.Proofs
theorem hU(a b:Tm):Fun Tryz.prog 58 [a.avw,b.avw] (.bool (decide (a.cmp b=0))):=by
 refine Fun.of (DK (by simp) ?_) rfl rfl
 conv=>whnf
 repeat' (first|refine gF (aa.fn (Bc a b) ?_)|refine ae.nrm ?_)<;>conv=>whnf
end Go.CK
namespace Go.CK
def Gp:ByteArray:=⟨#[43]⟩
def Gm:ByteArray:=⟨#[45]⟩
def Gn:ByteArray:=⟨#[42]⟩
def Ee:ByteArray:=⟨#[47]⟩
def cMod:ByteArray:=⟨#[37]⟩
def oD(s:ByteArray):Bool:=decide (s=Gp\/s=Gm\/s=Gn\/s=Ee\/s=cMod)
def inR(n:Int):Bool:=decide (-2147483648<=n/\n<=2147483648)
def quo(a b:Int):Int:=if a.tmod b≠0/\((a<0)≠(b<0)) then a.tdiv b-1 else a.tdiv b
theorem LN(a b:Int)(hb:b≠0):quo a b=a.fdiv b:=by
 unfold quo;have hdvd:(b∣a)↔a.tmod b=0:=⟨λh=>Int.tmod_eq_zero_of_dvd h,λh=>Int.dvd_of_tmod_eq_zero h⟩;rw[Int.fdiv_eq_tdiv]
 by_cases h0:a.tmod b=0
 .simp [h0,hdvd]
 .rcases Int.lt_or_gt_of_ne hb with hb'|hb'
  .have e1:b.sign=-1:=Int.sign_eq_neg_one_of_neg hb'
   by_cases ha:a<0
   .simp [h0,hdvd,ha,hb',e1,show¬0<=a by omega,show¬0<=b by omega]
   .simp [h0,hdvd,ha,hb',show 0<=a by omega,show¬0<=b by omega]
  .have e1:b.sign=1:=Int.sign_eq_one_of_pos hb'
   by_cases ha:a<0
   .simp [h0,hdvd,ha,e1,show¬b<0 by omega,show¬0<=a by omega,show 0<=b by omega]
   .simp [h0,hdvd,ha,show¬b<0 by omega,show 0<=a by omega,show 0<=b by omega]
theorem An{a b:Int}(hb:b≠0)(h1:-2147483648<=a)(h2:a<=2147483648):-2147483648<=a.fdiv b/\a.fdiv b<=2147483648:=by
 rcases Int.lt_or_gt_of_ne hb with hb'|hb'
 .rw [<-Int.neg_fdiv_neg,Int.fdiv_eq_ediv_of_nonneg _ (by omega)]
  have h3:=Int.natAbs_ediv_le_natAbs (-a) (-b);omega
 .rw [Int.fdiv_eq_ediv_of_nonneg _ (by omega)]
  have h3:=Int.natAbs_ediv_le_natAbs a b;omega
theorem GZ{a:Int}(b:Int)(h1:-2147483648<=a)(h2:a<=2147483648):-2147483648<=a.tdiv b/\a.tdiv b<=2147483648:=by
 have h3:=Int.natAbs_tdiv a b;have h4:=Nat.div_le_self a.natAbs b.natAbs;have h5:(a.tdiv b).natAbs<=a.natAbs:=by rw[h3];exact h4
 omega
theorem uy{a b:Int}(h1:-2147483648<=a)(h2:a<=2147483648)(h3:-2147483648<=b)(h4:b<=2147483648):-4611686018427387904<=a*b/\a*b<=4611686018427387904:=by
 have h5:(a*b).natAbs<=4611686018427387904:=by
  rw[Int.natAbs_mul];exact ZO (Nat.mul_le_mul (show a.natAbs<=2147483648 by omega) (show b.natAbs<=2147483648 by omega)) (by decide)
 omega
def opv(s:ByteArray)(a b:Int):Int×Int:=
 if s=Gp then (a+b,0) else if s=Gm then (a-b,0) else if s=Gn then (a*b,0) else if b=0 then (0,12)
 else if s=Ee then (a.fdiv b,0) else (a-a.fdiv b*b,0)
def apply(s:ByteArray)(a b:Int):Int×Int:=
 if oD s=false then (0,7) else if (inR a&&inR b)=false then (0,5) else
 if (opv s a b).2≠0 then (0,(opv s a b).2) else if inR (opv s a b).1=false then (0,5) else ((opv s a b).1,0)
theorem tq{n:Int}:inR n=true↔-2147483648<=n/\n<=2147483648:=by simp[inR]
theorem Ho{s:ByteArray}{a b:Int}(ia:inR a=true)(ib:inR b=true):bO (opv s a b).1:=by
 have ha':=tq.1 ia;have hb':=tq.1 ib;have hm:=uy ha'.1 ha'.2 hb'.1 hb'.2;unfold opv bO;split
 .dsimp only;omega
 split
 .dsimp only;omega
 split
 .dsimp only;omega
 split
 .dsimp only;omega
 rename_i h4;have h5:=An h4 ha'.1 ha'.2;have h6:=uy h5.1 h5.2 hb'.1 hb'.2;split
 .dsimp only;omega
 .dsimp only;omega
end Go.CK
namespace Go.CK
def aU:Tm->Int×Int
 |.mk k n s [a,b]=>
  if k=1 then (0,17) else if k=0 then (if inR n=true then (n,0) else (0,5)) else if k≠2\/oD s=false then (0,11) else
  if (aU a).2≠0 then (0,(aU a).2) else if (aU b).2≠0 then (0,(aU b).2) else apply s (aU a).1 (aU b).1
 |.mk k n _ _=>if k=1 then (0,17) else if k=0 then (if inR n=true then (n,0) else (0,5)) else (0,11)
theorem F5{k n:Int}{s:ByteArray}{l:List Tm}(h:l.length≠2):aU (.mk k n s l)=if k=1 then (0,17) else if k=0 then (if inR n=true then (n,0) else (0,5)) else (0,11):=by
 match l,h with
 |[],_=>simp[aU]
 |[a],_=>simp[aU]
 |a::b::c::r,_=>simp[aU]
theorem MK{k n:Int}{s:ByteArray}{a b:Tm}:aU (.mk k n s [a,b])=if k=1 then (0,17) else if k=0 then (if inR n=true then (n,0) else (0,5)) else if k≠2\/oD s=false then (0,11) else
  if (aU a).2≠0 then (0,(aU a).2) else if (aU b).2≠0 then (0,(aU b).2) else apply s (aU a).1 (aU b).1:=by rw[aU]
theorem qU{α:Type}{l:List α}(h:l.length=2):∃a b,l=[a,b]:=by
 match l,h with
 |[a,b],_=>exact⟨a,b,rfl⟩
theorem As{k n:Int}{s:ByteArray}{l:List Tm}(h2:k≠2):aU (.mk k n s l)=if k=1 then (0,17) else if k=0 then (if inR n=true then (n,0) else (0,5)) else (0,11):=by
 by_cases h:l.length=2
 .obtain ⟨a,b,rfl⟩:=qU h;rw[MK,if_pos (show k≠2\/oD s=false from .inl h2)]
 .exact F5 h
theorem KD{n:Int}{s:ByteArray}{l:List Tm}(h:l.length≠2):aU (.mk 2 n s l)=(0,11):=by
 rw[F5 h];simp
theorem CN{n:Int}{s:ByteArray}{a b:Tm}:aU (.mk 2 n s [a,b])=if oD s=false then (0,11) else
  if (aU a).2≠0 then (0,(aU a).2) else if (aU b).2≠0 then (0,(aU b).2) else apply s (aU a).1 (aU b).1:=by
 rw[aU];simp
end Go.CK
namespace Go.CK
open Go.AM Go.Proofs
theorem Mo{n:Int}(h:¬(-2147483648<=n/\n<=2147483648)):inR n=false:=by unfold inR;exact decide_eq_false h
theorem Ob{n:Int}(h:-2147483648<=n/\n<=2147483648):inR n=true:=by unfold inR;exact decide_eq_true h
theorem Px{a b:Int}(h:bO (a+b)):Fun Tryz.prog 174 [.int .i64 a,.int .i64 b] (.tup [.int .i64 (a+b),.int .i64 0]):=by
 unfold bO at h;refine Fun.of (BE (by simp) ?_) rfl rfl
 conv=>whnf
 repeat' (first|refine gW (wI ?_)|refine ae.nrm ?_)<;>conv=>whnf
theorem Pw{a b:Int}(h:bO (a-b)):Fun Tryz.prog 175 [.int .i64 a,.int .i64 b] (.tup [.int .i64 (a-b),.int .i64 0]):=by
 unfold bO at h;refine Fun.of (BD (by simp) ?_) rfl rfl
 conv=>whnf
 repeat' (first|refine gW (wI ?_)|refine ae.nrm ?_)<;>conv=>whnf
theorem Pv{a b:Int}(h:bO (a*b)):Fun Tryz.prog 176 [.int .i64 a,.int .i64 b] (.tup [.int .i64 (a*b),.int .i64 0]):=by
 unfold bO at h;refine Fun.of (BC (by simp) ?_) rfl rfl
 conv=>whnf
 repeat' (first|refine gW (wI ?_)|refine ae.nrm ?_)<;>conv=>whnf
set_option maxHeartbeats 1000000 in
theorem y9(l:List Int)(hl:l.length<=100):Fun Tryz.prog 138 [.sl .no (l.map (AV.int .i64))] (.bool (l.all inR)):=by
 refine Fun.of (uv (by simp) ?_) rfl rfl
 conv=>whnf
 repeat' refine gL (.map ?_)<;>conv=>whnf
 refine ax.by (fb:=true) (λs (q:Nat)=>s.dO [(7,.int .i64 q)]) (λq=>q<=l.length/\l.all inR=(l.drop q).all inR) (λq=>l.length-q) 0 ⟨zJ _,by rw[yZ]⟩ ?_ ?_
 .exact aH
 .rintro q ⟨hq,he⟩
  by_cases hlt:q<l.length
  .obtain ⟨x,hx⟩:∃x,l[q]? =some x:=⟨_,zA hlt⟩;have hx2:(l.map (AV.int .i64))[q]? =some (.int .i64 x):=by rw[ZF,hx];rfl
   have hd:(l.drop q).all inR=(inR x&&(l.drop (q+1)).all inR):=by
    rw[zH hlt,(zB.1 hx).2,Zq]
   rw[hd] at he
   conv=>whnf
   repeat' (first|(refine gC ?_;first|refine cY ?_|(refine gD ?_;first|refine cI ?_|refine cJ ?_)|refine ak.lt (λhc=>?_) (λhc=>?_))|refine gW (wI ?_)|refine gI (gM (iE ?_))|refine ae.nrm ?_)<;>conv=>whnf
   .rw [he,Mo (by omega)];rfl
   .rw [he,Mo (by omega)];rfl
   .refine ⟨q+1,⟨⟨hlt,by rw[he,Ob (by omega)];rfl⟩,by omega⟩,?_⟩
    exact aH
  .have hq2:q=l.length:=by omega
   subst hq2;rw[zj] at he
   conv=>whnf
   repeat' (first|refine gC (gD (cJ ?_))|refine ae.nrm ?_)<;>conv=>whnf
   rw[he];rfl
theorem qf(a b:Int):Fun Tryz.prog 138 [.sl .no [.int .i64 a,.int .i64 b]] (.bool (inR a&&inR b)):=by
 have:=y9 [a,b] (by simp)
 simp only[zP,Zf,Zq,List.all_nil,Bool.and_true] at this;exact this
theorem qg(a:Int):Fun Tryz.prog 138 [.sl .no [.int .i64 a]] (.bool (inR a)):=by
 have:=y9 [a] (by simp)
 simp only[zP,Zf,Zq,List.all_nil,Bool.and_true] at this;exact this
theorem vj{a b:Int}(hb:b≠0)(h1:inR a=true)(h2:inR b=true):Fun Tryz.prog 178 [.int .i64 a,.int .i64 b] (.int .i64 (a.fdiv b)):=by
 rw[<-LN a b hb];have h3:=tq.1 h1;have h4:=GZ b h3.1 h3.2;refine Fun.of (sX (by simp) ?_) rfl rfl
 conv=>whnf
 repeat' (first|(refine gC ?_;first|refine cN ?_|refine .not ?_|(refine gD ?_;first|refine cI ?_|refine cJ ?_)|refine ak.dec (λhc=>?_) (λhc=>?_))|refine gW (wI ?_)|refine gN (nS ?_)|refine ae.nrm ?_)<;>conv=>whnf
 all_goals unfold quo
 .rw [if_neg (λe=>e.1 hc)]
 .rename_i h0;rw[if_neg (λe=>e.2 (propext (decide_eq_decide.1 hc)))]
 .rename_i h0;rw[if_pos ⟨h0,λe=>hc (decide_eq_decide.2 (iff_of_eq e))⟩]
end Go.CK
