/-
  Texts of this aQ joined (wip/gen/bundle.py),those declarations only that are needed:RcAri RcBnd BdA BdB SbA SbB BnA BnB BnC BnD ArithM EvalM. By an AI agent.
-/
import Derived.Test.YtahnpgfkkngimaaGreatBbh
set_option linter.unusedSimpArgs false
set_option linter.unusedVariables false
set_option maxRecDepth 100000
namespace Go.CK
open Go.AM Go.Proofs
variable{vals:List AV}{bs:List Box}{Q:AV->List Box->Prop}
def wj:RC:=
 (.seq (rR [1] [oQ 1 (.box (.t 0)),oQ 2 (.mov (.c (.int .i64 0))),oQ 3 (.mov (.c (.int .i64 0)))]) (.seq (.block 0 (.seq (rR [1,8] [qF 9 0 1,qL 10 9,oQ 11 (.bin .eql (.t 10) (.c (.int .i64 1))),qM 8 11]) (.cond (.t 8) (.seq (rR [2,3] [oQ 2 (.mov (.c (.int .i64 0))),oQ 3 (.mov (.c (.int .i64 17)))]) .ret) (.seq (rR [1,12] [qF 13 0 1,qL 14 13,oQ 15 (.bin .eql (.t 14) (.c (.int .i64 0))),qM 16 15,oG 17 16 true (.aT 1 (.t 1)),oG 18 16 true (.load false 1 (.t 17)),oG 19 16 true (.aG 1 [(.t 18)]),oG 20 16 true (cF 89 [(.t 19)]),oQ 21 (.pick (.t 16) (.t 20) (.c (.bool false))),qM 12 21]) (.cond (.t 12) (.seq (rR [2,3] [qF 22 1 1,qL 23 22,qM 2 23,oQ 3 (.mov (.c (.int .i64 0)))]) .ret) (.seq (rR [1,24] [qF 25 0 1,qL 26 25,oQ 27 (.bin .eql (.t 26) (.c (.int .i64 0))),qM 24 27]) (.cond (.t 24) (.seq (rR [2,3] [oQ 2 (.mov (.c (.int .i64 0))),oQ 3 (.mov (.c (.int .i64 5)))])
 .ret) (.seq (rR [1,28] [qA 29 4 1,oQ 30 (cF 90 [(.t 29)]),oQ 31 (.un .not (.t 30)),qM 28 31]) (.cond (.t 28) (.seq (rR [2,3] [oQ 2 (.mov (.c (.int .i64 0))),oQ 3 (.mov (.c (.int .i64 11)))]) .ret) .skip))))))))) (.seq (rR [1,4] [oQ 4 (.box (.c (.agg [(.int .i64 0),(.int .i64 0)])))]) (.seq (.seq (rR [1,4,32] [oQ 32 (.mov (.c (.int .i64 0)))]) (.block 1 (.loop (.seq (rR [1,4,32,33] [oQ 33 (.bin .lss (.t 32) (.c (.int .i64 2)))]) (.seq (.cond (.t 33) .skip (.exit 1)) (.seq (.block 2 (.seq (rR [1,4,5,32] [qM 34 32,qM 5 34]) (.seq (rR [1,4,5,6,7,32] [qF 36 3 1,qL 37 36,qM 38 5,qI 39 4 37 38,qA 40 4 39,oQ 41 (cF 49 [(.t 40)]),qM 35 41,oQ 42 (.ext 0 (.t 35)),oQ 43 (.ext 1 (.t 35)),qM 6 42,qM 7 43]) (.seq (.seq (rR [1,4,5,6,7,32,45] [qM 44 7,oQ 45 (.bin .neq (.t 44) (.c (.int .i64 0)))]) (.cond (.t 45) (.seq (rR [2,3] [qM 46 7,oQ 2 (.mov (.c (.int .i64 0))),qM 3 46])
 .ret) .skip)) (rR [1,4,32] [qM 47 5,qM 48 6,oQ 49 (.ql 2 1 (.t 4) (.t 47)),oN (.store 1 (.t 49) (.t 48))]))))) (rR [1,4,32] [oQ 50 (.bin .add (.t 32) (.c (.int .i64 1))),qM 32 50]))))))) (.seq (rR [2,3] [qF 51 2 1,qL 52 51,oQ 53 (.ql 2 1 (.t 4) (.c (.int .i64 0))),qL 54 53,oQ 55 (.ql 2 1 (.t 4) (.c (.int .i64 1))),qL 56 55,oQ 57 (cF 91 [(.t 52),(.t 54),(.t 56)]),oQ 58 (.ext 0 (.t 57)),oQ 59 (.ext 1 (.t 57)),qM 2 58,qM 3 59]) .ret)))))
theorem dy(hn:vals.length<=60)(h:SP Tryz.prog true vals bs wj [.slot 2,.slot 3] Q):AM.Sem Tryz.prog 49 vals bs Q:=
 oZ (keeps:=[(0,[1]),(1,[1,8]),(3,[1,12]),(5,[1,24]),(7,[1,28]),(8,[2,3]),(6,[2,3]),(4,[2,3]),(2,[2,3]),(9,[1,4]),(10,[1,4,32]),(11,[1,4,32,33]),(12,[1,4,5,32]),(13,[1,4,5,6,7,32]),(14,[1,4,5,6,7,32,45]),(15,[2,3]),(16,[1,4,32]),(17,[1,4,32]),(18,[2,3])]) (solo:=[]) Tryz.func49 rfl hn h
def pQ:RC:=
 (.seq (rR [1] [oQ 1 (.box (.t 0)),oQ 2 (.mov (.c (.bool false)))]) (.seq (rR [2] [qF 3 0 1,qL 4 3,oQ 5 (.bin .eql (.t 4) (.c (.int .i64 2))),qM 6 5,oG 7 6 true (.aT 3 (.t 1)),oG 8 6 true (.load false 1 (.t 7)),oG 9 6 true (.len false (.t 8)),oG 10 6 true (.bin .eql (.t 9) (.c (.int .i64 2))),oQ 11 (.pick (.t 6) (.t 10) (.c (.bool false))),qM 12 11,oG 13 12 true (.aT 2 (.t 1)),oG 14 12 true (.load false 1 (.t 13)),oG 15 12 true (cF 128 [(.t 14)]),oG 16 12 true (.more (.eqF true) [(.t 15),(.c .nfn)]),oQ 17 (.pick (.t 12) (.t 16) (.c (.bool false))),qM 2 17]) .ret))
theorem a6(hn:vals.length<=18)(h:SP Tryz.prog true vals bs pQ [.slot 2] Q):AM.Sem Tryz.prog 90 vals bs Q:=
 oZ (keeps:=[(0,[1]),(1,[2])]) (solo:=[]) Tryz.func90 rfl hn h
def z6:RC:=
 (.seq (rR [0] [oQ 2 (.mov (.c .nfn))]) (.seq (.seq (rR [3] [qM 3 0]) (.block 0 (.seq (rR [3,4] [oQ 5 (.bin .eql (.t 3) (.c (.str ⟨⟨[43]⟩⟩))),qM 4 5]) (.cond (.t 4) (.seq (rR [2] [oQ 2 (.mov (.c (.fn (.func 159) [] [])))]) .ret) (.seq (rR [3,6] [oQ 7 (.bin .eql (.t 3) (.c (.str ⟨⟨[45]⟩⟩))),qM 6 7]) (.cond (.t 6) (.seq (rR [2] [oQ 2 (.mov (.c (.fn (.func 160) [] [])))]) .ret) (.seq (rR [3,8] [oQ 9 (.bin .eql (.t 3) (.c (.str ⟨⟨[42]⟩⟩))),qM 8 9]) (.cond (.t 8) (.seq (rR [2] [oQ 2 (.mov (.c (.fn (.func 161) [] [])))]) .ret) (.seq (rR [3,10] [oQ 11 (.bin .eql (.t 3) (.c (.str ⟨⟨[47]⟩⟩))),qM 10 11]) (.cond (.t 10) (.seq (rR [2] [oQ 12 (cF 162 [(.c (.fn (.func 163) [] []))]),qM 2 12]) .ret) (.seq (rR [13] [oQ 14 (.bin .eql (.t 3) (.c (.str ⟨⟨[37]⟩⟩))),qM 13 14]) (.cond (.t 13) (.seq (rR [2] [oQ 15 (cF 162 [(.c (.fn (.func 164) [] []))]),qM 2 15]) .ret) .skip)))))))))))) (.seq
 (rR [2] [oQ 2 (.mov (.c .nfn))]) .ret)))
theorem cu(hn:vals.length<=16)(h:SP Tryz.prog true vals bs z6 [.slot 2] Q):AM.Sem Tryz.prog 128 vals bs Q:=
 oZ (keeps:=[(0,[0]),(1,[3]),(2,[3,4]),(4,[3,6]),(6,[3,8]),(8,[3,10]),(10,[13]),(11,[2]),(9,[2]),(7,[2]),(5,[2]),(3,[2]),(12,[2])]) (solo:=[]) Tryz.func128 rfl hn h
def qP:RC:=
 (.seq (rR [0] [oQ 2 (.mov (.c (.bool false)))]) (.seq (.seq (rR [5,6,7] [qM 5 0,oQ 6 (.len false (.t 5)),oQ 7 (.mov (.c (.int .i64 0)))]) (.block 0 (.loop (.seq (rR [5,6,7,8] [oQ 8 (.bin .lss (.t 7) (.t 6))]) (.seq (.cond (.t 8) .skip (.exit 0)) (.seq (.block 1 (.seq (rR [4,5,6,7] [qI 9 1 5 7,qL 10 9,qM 4 10]) (.seq (rR [5,6,7,16] [qM 11 4,oQ 12 (.bin .lss (.t 11) (.c (.int .i64 (-2147483648)))),qM 13 12,oG 14 13 false (.mov (.t 4)),oG 15 13 false (.bin .gtr (.t 14) (.c (.int .i64 2147483648))),oQ 16 (.pick (.t 13) (.c (.bool true)) (.t 15))]) (.cond (.t 16) (.seq (rR [2] [oQ 2 (.mov (.c (.bool false)))]) .ret) .skip)))) (rR [5,6,7] [oQ 17 (.bin .add (.t 7) (.c (.int .i64 1))),qM 7 17]))))))) (.seq (rR [2] [oQ 2 (.mov (.c (.bool true)))]) .ret)))
theorem qX(hn:vals.length<=18)(h:SP Tryz.prog true vals bs qP [.slot 2] Q):AM.Sem Tryz.prog 89 vals bs Q:=
 oZ (keeps:=[(0,[0]),(1,[5,6,7]),(2,[5,6,7,8]),(3,[4,5,6,7]),(4,[5,6,7,16]),(5,[2]),(6,[5,6,7]),(7,[2])]) (solo:=[]) Tryz.func89 rfl hn h
def tI:RC:=
 (.seq (rR [0,1,2] [oQ 6 (.mov (.c (.int .i64 0))),oQ 7 (.mov (.c (.int .i64 0)))]) (.seq (rR [1,2,8] [qM 11 0,oQ 12 (cF 128 [(.t 11)]),qM 8 12]) (.seq (.seq (rR [1,2,8,14] [qM 13 8,oQ 14 (.more (.eqF false) [(.t 13),(.c .nfn)])]) (.cond (.t 14) (.seq (rR [6,7] [oQ 6 (.mov (.c (.int .i64 0))),oQ 7 (.mov (.c (.int .i64 7)))]) .ret) .skip)) (.seq (.seq (rR [1,2,8,19] [qM 15 1,qM 16 2,oQ 17 (.aG 1 [(.t 15),(.t 16)]),oQ 18 (cF 89 [(.t 17)]),oQ 19 (.un .not (.t 18))]) (.cond (.t 19) (.seq (rR [6,7] [oQ 6 (.mov (.c (.int .i64 0))),oQ 7 (.mov (.c (.int .i64 5)))]) .ret) .skip)) (.seq (rR [9,10] [qM 21 8,qM 22 1,qM 23 2,oQ 24 (.dD (.t 21) [(.t 22),(.t 23)]),qM 20 24,oQ 25 (.ext 0 (.t 20)),oQ 26 (.ext 1 (.t 20)),qM 9 25,qM 10 26]) (.seq (.seq (rR [9,10,34] [qM 27 10,oQ 28 (.bin .eql (.t 27) (.c (.int .i64 0))),qM 29 28,oG 30 29 true (.mov (.t 9)),oG 31 29 true (.aG 1 [(.t 30)]),oG 32 29 true (cF 89 [(.t 31)]),oG 33 29 true (.un .not (.t 32)),oQ 34 (.pick (.t 29) (.t 33) (.c (.bool false)))])
 (.cond (.t 34) (rR [9,10] [oQ 10 (.mov (.c (.int .i64 5)))]) .skip)) (.seq (.seq (rR [9,10,36] [qM 35 10,oQ 36 (.bin .neq (.t 35) (.c (.int .i64 0)))]) (.cond (.t 36) (.seq (rR [6,7] [qM 37 10,oQ 6 (.mov (.c (.int .i64 0))),qM 7 37]) .ret) .skip)) (.seq (rR [6,7] [qM 38 9,qM 6 38,oQ 7 (.mov (.c (.int .i64 0)))]) .ret))))))))
theorem ay(hn:vals.length<=39)(h:SP Tryz.prog true vals bs tI [.slot 6,.slot 7] Q):AM.Sem Tryz.prog 91 vals bs Q:=
 oZ (keeps:=[(0,[0,1,2]),(1,[1,2,8]),(2,[1,2,8,14]),(3,[6,7]),(4,[1,2,8,19]),(5,[6,7]),(6,[9,10]),(7,[9,10,34]),(8,[9,10]),(9,[9,10,36]),(10,[6,7]),(11,[6,7])]) (solo:=[]) Tryz.func91 rfl hn h
def qQ:RC:=
 (.seq (rR [1] [oQ 1 (.box (.t 0)),oQ 2 (.mov (.c .nfn))]) (.seq (rR [2] [oQ 3 (.ug (.func 175) [] [(.t 1)]),qM 2 3]) .ret))
theorem dh(hn:vals.length<=4)(h:SP Tryz.prog true vals bs qQ [.slot 2] Q):AM.Sem Tryz.prog 162 vals bs Q:=
 oZ (keeps:=[(0,[1]),(1,[2])]) (solo:=[]) Tryz.func162 rfl hn h
def pO:RC:=
 (.seq (rR [0,1] [oQ 4 (.mov (.c (.int .i64 0)))]) (.seq (rR [0,1,5] [qM 6 0,qM 7 1,oQ 8 (.bin .quo (.t 6) (.t 7)),qM 5 8]) (.seq (.seq (rR [5,19] [qM 9 0,qM 10 1,oQ 11 (.bin .rem (.t 9) (.t 10)),oQ 12 (.bin .neq (.t 11) (.c (.int .i64 0))),qM 13 12,oG 14 13 true (.mov (.t 0)),oG 15 13 true (.bin .lss (.t 14) (.c (.int .i64 0))),oG 16 13 true (.mov (.t 1)),oG 17 13 true (.bin .lss (.t 16) (.c (.int .i64 0))),oG 18 13 true (.more (.eqB true) [(.t 15),(.t 17)]),oQ 19 (.pick (.t 13) (.t 18) (.c (.bool false)))]) (.cond (.t 19) (rR [5] [qM 20 5,oQ 21 (.bin .sub (.t 20) (.c (.int .i64 1))),qM 5 21]) .skip)) (.seq (rR [4] [qM 22 5,qM 4 22]) .ret))))
theorem pY(hn:vals.length<=23)(h:SP Tryz.prog true vals bs pO [.slot 4] Q):AM.Sem Tryz.prog 163 vals bs Q:=
 oZ (keeps:=[(0,[0,1]),(1,[0,1,5]),(2,[5,19]),(3,[5]),(4,[4])]) (solo:=[]) Tryz.func163 rfl hn h
def wi:RC:=
 (.seq (rR [0,1] [oQ 4 (.mov (.c (.int .i64 0))),oQ 5 (.mov (.c (.int .i64 0)))]) (.seq (rR [4,5] [qM 6 0,qM 7 1,oQ 8 (.bin .add (.t 6) (.t 7)),qM 4 8,oQ 5 (.mov (.c (.int .i64 0)))]) .ret))
theorem wy(hn:vals.length<=9)(h:SP Tryz.prog true vals bs wi [.slot 4,.slot 5] Q):AM.Sem Tryz.prog 159 vals bs Q:=
 oZ (keeps:=[(0,[0,1]),(1,[4,5])]) (solo:=[]) Tryz.func159 rfl hn h
def wh:RC:=
 (.seq (rR [0,1] [oQ 4 (.mov (.c (.int .i64 0))),oQ 5 (.mov (.c (.int .i64 0)))]) (.seq (rR [4,5] [qM 6 0,qM 7 1,oQ 8 (.bin .sub (.t 6) (.t 7)),qM 4 8,oQ 5 (.mov (.c (.int .i64 0)))]) .ret))
theorem wx(hn:vals.length<=9)(h:SP Tryz.prog true vals bs wh [.slot 4,.slot 5] Q):AM.Sem Tryz.prog 160 vals bs Q:=
 oZ (keeps:=[(0,[0,1]),(1,[4,5])]) (solo:=[]) Tryz.func160 rfl hn h
def wg:RC:=
 (.seq (rR [0,1] [oQ 4 (.mov (.c (.int .i64 0))),oQ 5 (.mov (.c (.int .i64 0)))]) (.seq (rR [4,5] [qM 6 0,qM 7 1,oQ 8 (.bin .mul (.t 6) (.t 7)),qM 4 8,oQ 5 (.mov (.c (.int .i64 0)))]) .ret))
theorem wv(hn:vals.length<=9)(h:SP Tryz.prog true vals bs wg [.slot 4,.slot 5] Q):AM.Sem Tryz.prog 161 vals bs Q:=
 oZ (keeps:=[(0,[0,1]),(1,[4,5])]) (solo:=[]) Tryz.func161 rfl hn h
def we:RC:=
 (.seq (rR [0,1] [oQ 4 (.mov (.c (.int .i64 0)))]) (.seq (rR [4] [qM 5 0,qM 6 0,qM 7 1,oQ 8 (cF 163 [(.t 6),(.t 7)]),qM 9 1,oQ 10 (.bin .mul (.t 8) (.t 9)),oQ 11 (.bin .sub (.t 5) (.t 10)),qM 4 11]) .ret))
theorem wu(hn:vals.length<=12)(h:SP Tryz.prog true vals bs we [.slot 4] Q):AM.Sem Tryz.prog 164 vals bs Q:=
 oZ (keeps:=[(0,[0,1]),(1,[4])]) (solo:=[]) Tryz.func164 rfl hn h
def oX:RC:=
 (.seq (rR [0,1,2] [oQ 5 (.mov (.c (.int .i64 0))),oQ 6 (.mov (.c (.int .i64 0)))]) (.seq (.seq (rR [0,1,2,8] [qM 7 1,oQ 8 (.bin .eql (.t 7) (.c (.int .i64 0)))]) (.cond (.t 8) (.seq (rR [5,6] [oQ 5 (.mov (.c (.int .i64 0))),oQ 6 (.mov (.c (.int .i64 12)))]) .ret) .skip)) (.seq (rR [5,6] [qL 9 2,qM 10 0,qM 11 1,oQ 12 (.dD (.t 9) [(.t 10),(.t 11)]),qM 5 12,oQ 6 (.mov (.c (.int .i64 0)))]) .ret)))
theorem cy(hn:vals.length<=13)(h:SP Tryz.prog true vals bs oX [.slot 5,.slot 6] Q):AM.Sem Tryz.prog 175 vals bs Q:=
 oZ (keeps:=[(0,[0,1,2]),(1,[0,1,2,8]),(2,[5,6]),(3,[5,6])]) (solo:=[]) Tryz.func175 rfl hn h
def Lt:RC:=
 (.seq (rR [1] [oQ 1 (.box (.t 0)),oQ 2 (.mov (.c (.int .i64 0))),oQ 3 (.mov (.c (.int .i64 0)))]) (.seq (.seq (rR [1,9] [qF 8 0 1,qL 9 8]) (.block 0 (.seq (rR [1,9,10] [oQ 11 (.bin .eql (.t 9) (.c (.int .i64 0))),qM 10 11]) (.cond (.t 10) (.seq (.seq (rR [1,15] [qF 12 1 1,qL 13 12,oQ 14 (cF 92 [(.t 13)]),oQ 15 (.un .not (.t 14))]) (.cond (.t 15) (.seq (rR [2,3] [oQ 2 (.mov (.c (.int .i64 0))),oQ 3 (.mov (.c (.int .i64 5)))]) .ret) .skip)) (.seq (rR [2,3] [qF 16 1 1,qL 17 16,qM 2 17,oQ 3 (.mov (.c (.int .i64 0)))]) .ret)) (.seq (rR [1,18] [oQ 19 (.bin .eql (.t 9) (.c (.int .i64 1))),qM 18 19]) (.cond (.t 18) (.seq (rR [2,3] [oQ 2 (.mov (.c (.int .i64 0))),oQ 3 (.mov (.c (.int .i64 17)))]) .ret) .skip)))))) (.seq (.seq (rR [1,34] [qF 20 0 1,qL 21 20,oQ 22 (.bin .neq (.t 21) (.c (.int .i64 2))),qM 23 22,oG 24 23 false (.aT 2 (.t 1)),oG 25 23 false (.load false 1 (.t 24)),oG 26 23 false (cF 93 [(.t 25)]),oG 27 23 false (.un .not (.t 26)),oQ 28 (.pick (.t 23) (.c (.bool true)) (.t 27)),qM 29 28,oG 30 29 false (.aT 3 (.t 1)),oG 31 29 false (.load false 1 (.t 30)),oG 32 29 false (.len false (.t 31)),oG 33 29 false (.bin .neq (.t 32) (.c (.int .i64 2))),oQ 34 (.pick (.t 29) (.c (.bool true)) (.t 33))])
 (.cond (.t 34) (.seq (rR [2,3] [oQ 2 (.mov (.c (.int .i64 0))),oQ 3 (.mov (.c (.int .i64 11)))]) .ret) .skip)) (.seq (rR [1,4,5] [qF 36 3 1,qL 37 36,oQ 38 (.idx 4 (.t 37) (.c (.int .i64 0))),qA 39 4 38,oQ 40 (cF 51 [(.t 39)]),qM 35 40,oQ 41 (.ext 0 (.t 35)),oQ 42 (.ext 1 (.t 35)),qM 4 41,qM 5 42]) (.seq (.seq (rR [1,4,5,44] [qM 43 5,oQ 44 (.bin .neq (.t 43) (.c (.int .i64 0)))]) (.cond (.t 44) (.seq (rR [2,3] [qM 45 5,oQ 2 (.mov (.c (.int .i64 0))),qM 3 45]) .ret) .skip)) (.seq (rR [1,4,6,7] [qF 47 3 1,qL 48 47,oQ 49 (.idx 4 (.t 48) (.c (.int .i64 1))),qA 50 4 49,oQ 51 (cF 51 [(.t 50)]),qM 46 51,oQ 52 (.ext 0 (.t 46)),oQ 53 (.ext 1 (.t 46)),qM 6 52,qM 7 53]) (.seq (.seq (rR [1,4,6,7,55] [qM 54 7,oQ 55 (.bin .neq (.t 54) (.c (.int .i64 0)))]) (.cond (.t 55) (.seq (rR [2,3] [qM 56 7,oQ 2 (.mov (.c (.int .i64 0))),qM 3 56]) .ret) .skip)) (.seq
 (rR [2,3] [qF 57 2 1,qL 58 57,qM 59 4,qM 60 6,oQ 61 (cF 94 [(.t 58),(.t 59),(.t 60)]),oQ 62 (.ext 0 (.t 61)),oQ 63 (.ext 1 (.t 61)),qM 2 62,qM 3 63]) .ret))))))))
theorem Lj(hn:vals.length<=64)(h:SP Tryz.prog true vals bs Lt [.slot 2,.slot 3] Q):AM.Sem Tryz.prog 51 vals bs Q:=
 oZ (keeps:=[(0,[1]),(1,[1,9]),(2,[1,9,10]),(6,[1,18]),(7,[2,3]),(3,[1,15]),(4,[2,3]),(5,[2,3]),(8,[1,34]),(9,[2,3]),(10,[1,4,5]),(11,[1,4,5,44]),(12,[2,3]),(13,[1,4,6,7]),(14,[1,4,6,7,55]),(15,[2,3]),(16,[2,3])]) (solo:=[]) Tryz.func51 rfl hn h
def Lr:RC:=
 (.seq (rR [0,1,2] [oQ 6 (.mov (.c (.int .i64 0))),oQ 7 (.mov (.c (.int .i64 0)))]) (.seq (.seq (rR [0,1,2,11] [qM 9 0,oQ 10 (cF 93 [(.t 9)]),oQ 11 (.un .not (.t 10))]) (.cond (.t 11) (.seq (rR [6,7] [oQ 6 (.mov (.c (.int .i64 0))),oQ 7 (.mov (.c (.int .i64 7)))]) .ret) .skip)) (.seq (.seq (rR [0,1,2,19] [qM 12 1,oQ 13 (cF 92 [(.t 12)]),oQ 14 (.un .not (.t 13)),qM 15 14,oG 16 15 false (.mov (.t 2)),oG 17 15 false (cF 92 [(.t 16)]),oG 18 15 false (.un .not (.t 17)),oQ 19 (.pick (.t 15) (.c (.bool true)) (.t 18))]) (.cond (.t 19) (.seq (rR [6,7] [oQ 6 (.mov (.c (.int .i64 0))),oQ 7 (.mov (.c (.int .i64 5)))]) .ret) .skip)) (.seq (rR [0,1,2] [oQ 8 (.mov (.c (.int .i64 0)))]) (.seq (.seq (rR [0,1,2,20] [qM 20 0]) (.block 0 (.seq (rR [0,1,2,20,33] [oQ 34 (.bin .eql (.t 20) (.c (.str ⟨⟨[43]⟩⟩))),qM 33 34]) (.cond (.t 33) (rR [8] [qM 35 1,qM 36 2,oQ 37 (.bin .add (.t 35) (.t 36)),qM 8 37])
 (.seq (rR [0,1,2,20,38] [oQ 39 (.bin .eql (.t 20) (.c (.str ⟨⟨[45]⟩⟩))),qM 38 39]) (.cond (.t 38) (rR [8] [qM 40 1,qM 41 2,oQ 42 (.bin .sub (.t 40) (.t 41)),qM 8 42]) (.seq (rR [0,1,2,43] [oQ 44 (.bin .eql (.t 20) (.c (.str ⟨⟨[42]⟩⟩))),qM 43 44]) (.cond (.t 43) (rR [8] [qM 45 1,qM 46 2,oQ 47 (.bin .mul (.t 45) (.t 46)),qM 8 47]) (.seq (.seq (rR [0,1,2,22] [qM 21 2,oQ 22 (.bin .eql (.t 21) (.c (.int .i64 0)))]) (.cond (.t 22) (.seq (rR [6,7] [oQ 6 (.mov (.c (.int .i64 0))),oQ 7 (.mov (.c (.int .i64 12)))]) .ret) .skip)) (.seq (rR [0,1,2,8] [qM 23 1,qM 24 2,oQ 25 (cF 129 [(.t 23),(.t 24)]),qM 8 25]) (.seq (rR [1,2,8,27] [qM 26 0,oQ 27 (.bin .eql (.t 26) (.c (.str ⟨⟨[37]⟩⟩)))]) (.cond (.t 27) (rR [8] [qM 28 1,qM 29 8,qM 30 2,oQ 31 (.bin .mul (.t 29) (.t 30)),oQ 32 (.bin .sub (.t 28) (.t 31)),qM 8 32]) .skip)))))))))))) (.seq (.seq (rR [8,50] [
 qM 48 8,oQ 49 (cF 92 [(.t 48)]),oQ 50 (.un .not (.t 49))]) (.cond (.t 50) (.seq (rR [6,7] [oQ 6 (.mov (.c (.int .i64 0))),oQ 7 (.mov (.c (.int .i64 5)))]) .ret) .skip)) (.seq (rR [6,7] [qM 51 8,qM 6 51,oQ 7 (.mov (.c (.int .i64 0)))]) .ret)))))))
theorem Li(hn:vals.length<=52)(h:SP Tryz.prog true vals bs Lr [.slot 6,.slot 7] Q):AM.Sem Tryz.prog 94 vals bs Q:=
 oZ (keeps:=[(0,[0,1,2]),(1,[0,1,2,11]),(2,[6,7]),(3,[0,1,2,19]),(4,[6,7]),(5,[0,1,2]),(6,[0,1,2,20]),(12,[0,1,2,20,33]),(14,[0,1,2,20,38]),(16,[0,1,2,43]),(7,[0,1,2,22]),(8,[6,7]),(9,[0,1,2,8]),(10,[1,2,8,27]),(11,[8]),(17,[8]),(15,[8]),(13,[8]),(18,[8,50]),(19,[6,7]),(20,[6,7])]) (solo:=[]) Tryz.func94 rfl hn h
def Ln:RC:=
 (.seq (rR [0] [oQ 2 (.mov (.c (.bool false)))]) (.seq (rR [2] [qM 3 0,oQ 4 (.bin .eql (.t 3) (.c (.str ⟨⟨[43]⟩⟩))),qM 5 4,oG 6 5 false (.mov (.t 0)),oG 7 5 false (.bin .eql (.t 6) (.c (.str ⟨⟨[45]⟩⟩))),oQ 8 (.pick (.t 5) (.c (.bool true)) (.t 7)),qM 9 8,oG 10 9 false (.mov (.t 0)),oG 11 9 false (.bin .eql (.t 10) (.c (.str ⟨⟨[42]⟩⟩))),oQ 12 (.pick (.t 9) (.c (.bool true)) (.t 11)),qM 13 12,oG 14 13 false (.mov (.t 0)),oG 15 13 false (.bin .eql (.t 14) (.c (.str ⟨⟨[47]⟩⟩))),oQ 16 (.pick (.t 13) (.c (.bool true)) (.t 15)),qM 17 16,oG 18 17 false (.mov (.t 0)),oG 19 17 false (.bin .eql (.t 18) (.c (.str ⟨⟨[37]⟩⟩))),oQ 20 (.pick (.t 17) (.c (.bool true)) (.t 19)),qM 2 20]) .ret))
theorem Lo(hn:vals.length<=21)(h:SP Tryz.prog true vals bs Ln [.slot 2] Q):AM.Sem Tryz.prog 93 vals bs Q:=
 oZ (keeps:=[(0,[0]),(1,[2])]) (solo:=[]) Tryz.func93 rfl hn h
def Lu:RC:=
 (.seq (rR [0] [oQ 2 (.mov (.c (.bool false)))]) (.seq (rR [2] [qM 3 0,oQ 4 (.bin .geq (.t 3) (.c (.int .i64 (-2147483648)))),qM 5 4,oG 6 5 true (.mov (.t 0)),oG 7 5 true (.bin .leq (.t 6) (.c (.int .i64 2147483648))),oQ 8 (.pick (.t 5) (.t 7) (.c (.bool false))),qM 2 8]) .ret))
theorem Lv(hn:vals.length<=9)(h:SP Tryz.prog true vals bs Lu [.slot 2] Q):AM.Sem Tryz.prog 92 vals bs Q:=
 oZ (keeps:=[(0,[0]),(1,[2])]) (solo:=[]) Tryz.func92 rfl hn h
def Lq:RC:=
 (.seq (rR [0,1] [oQ 4 (.mov (.c (.int .i64 0)))]) (.seq (.seq (rR [0,1,6] [qM 5 1,oQ 6 (.bin .lss (.t 5) (.c (.int .i64 0)))]) (.cond (.t 6) (rR [0,1] [qM 7 0,oQ 8 (.un .neg (.t 7)),qM 9 1,oQ 10 (.un .neg (.t 9)),qM 0 8,qM 1 10]) .skip)) (.seq (.seq (rR [0,1,12] [qM 11 0,oQ 12 (.bin .geq (.t 11) (.c (.int .i64 0)))]) (.cond (.t 12) (.seq (rR [4] [qM 13 0,qM 14 1,oQ 15 (.bin .quo (.t 13) (.t 14)),qM 4 15]) .ret) .skip)) (.seq (rR [4] [qM 16 1,oQ 17 (.bin .sub (.t 16) (.c (.int .i64 1))),qM 18 0,oQ 19 (.bin .sub (.t 17) (.t 18)),qM 20 1,oQ 21 (.bin .quo (.t 19) (.t 20)),oQ 22 (.un .neg (.t 21)),qM 4 22]) .ret))))
theorem Ls(hn:vals.length<=23)(h:SP Tryz.prog true vals bs Lq [.slot 4] Q):AM.Sem Tryz.prog 129 vals bs Q:=
 oZ (keeps:=[(0,[0,1]),(1,[0,1,6]),(2,[0,1]),(3,[0,1,12]),(4,[4]),(5,[4])]) (solo:=[]) Tryz.func129 rfl hn h
end Go.CK
namespace Go.CK
open Go.AM Go.Proofs
variable{vals:List AV}{bs:List Box}{Q:AV->List Box->Prop}
def sH:RC:=
 (.seq (rR [0,3,4] [oQ 3 (.box (.t 1)),oQ 4 (.box (.c (.agg [(.int .i64 0),(.int .i64 0),(.str ⟨⟨[]⟩⟩),(.sl .full [])]))),oQ 5 (.mov (.c (.bool false)))]) (.seq (rR [0,4,6] [qM 7 0,oQ 8 (.ug (.func 126) [] [(.t 3)]),oQ 9 (cF 125 [(.t 7),(.t 8)]),qM 6 9]) (.seq (.seq (rR [0,4,6,11] [qM 10 6,oQ 11 (.bin .lss (.t 10) (.c (.int .i64 0)))]) (.cond (.t 11) (.seq (rR [4,5] [oQ 12 (.build [(.int .i64 0),(.int .i64 0),(.str ⟨⟨[]⟩⟩),(.sl .full [])] []),oN (.store 4 (.t 4) (.t 12)),oQ 5 (.mov (.c (.bool false)))]) .ret) .skip)) (.seq (rR [4,5] [qM 13 0,qM 14 6,qI 15 5 13 14,qF 16 1 15,qA 17 4 16,oN (.store 4 (.t 4) (.t 17)),oQ 5 (.mov (.c (.bool true)))]) .ret))))
theorem sL(hn:vals.length<=18)(h:SP Tryz.prog true vals bs sH [.cell 4 true 4,.slot 5] Q):AM.Sem Tryz.prog 87 vals bs Q:=
 oZ (keeps:=[(0,[0,3,4]),(1,[0,4,6]),(2,[0,4,6,11]),(3,[4,5]),(4,[4,5])]) (solo:=[]) Tryz.func87 rfl hn h
def tE:RC:=
 (.seq (rR [0,3,4] [oQ 3 (.box (.t 1)),oQ 4 (.box (.c (.agg [(.int .i64 0),(.int .i64 0),(.str ⟨⟨[]⟩⟩),(.sl .full [])])))]) (.seq (.seq (rR [0,3,4,8] [qF 7 0 3,qL 8 7]) (.block 0 (.seq (rR [0,3,4,8,9] [oQ 10 (.bin .eql (.t 8) (.c (.int .i64 1))),qM 9 10]) (.cond (.t 9) (.seq (rR [3,4,5,6] [qM 12 0,qF 13 1 3,qL 14 13,oQ 15 (cF 87 [(.t 12),(.t 14)]),qM 11 15,oQ 16 (.ext 0 (.t 11)),oQ 17 (.ext 1 (.t 11)),oQ 5 (.box (.c (.agg [(.int .i64 0),(.int .i64 0),(.str ⟨⟨[]⟩⟩),(.sl .full [])]))),oN (.store 4 (.t 5) (.t 16)),qM 6 17]) (.seq (rR [3,4,5,18] [qM 18 6]) (.cond (.t 18) (.seq (rR [4] [qA 19 4 5,oN (.store 4 (.t 4) (.t 19))]) .ret) .skip))) (.seq (rR [0,3,4,20] [oQ 21 (.bin .eql (.t 8) (.c (.int .i64 2))),qM 20 21]) (.cond (.t 20) (rR [3,4] [qM 22 0,qF 23 3 3,qL 24 23,oQ 25 (cF 88 [(.t 22),(.t 24)]),qF 26 3 3,oN (.store 1 (.t 26) (.t 25))])
 .skip)))))) (.seq (rR [4] [qA 27 4 3,oN (.store 4 (.t 4) (.t 27))]) .ret)))
theorem tQ(hn:vals.length<=28)(h:SP Tryz.prog true vals bs tE [.cell 4 true 4] Q):AM.Sem Tryz.prog 47 vals bs Q:=
 oZ (keeps:=[(0,[0,3,4]),(1,[0,3,4,8]),(2,[0,3,4,8,9]),(6,[0,3,4,20]),(7,[3,4]),(3,[3,4,5,6]),(4,[3,4,5,18]),(5,[4]),(8,[4])]) (solo:=[]) Tryz.func47 rfl hn h
def qH:RC:=
 (.seq (rR [0,1] [oQ 4 (.mov (.c (.sl .full [])))]) (.seq (rR [0,5] [qM 7 1,oQ 8 (cF 127 [(.t 7)]),qM 5 8]) (.seq (.seq (rR [0,5,10,11] [qM 9 5,oQ 10 (.len false (.t 9)),oQ 11 (.mov (.c (.int .i64 0)))]) (.block 0 (.loop (.seq (rR [0,5,10,11,12] [oQ 12 (.bin .lss (.t 11) (.t 10))]) (.seq (.cond (.t 12) .skip (.exit 0)) (.seq (.block 1 (.seq (rR [0,5,6,10,11] [qM 13 11,qM 6 13]) (rR [0,5,10,11] [qM 14 5,qM 15 6,qM 16 0,qM 17 5,qM 18 6,qI 19 4 17 18,qA 20 4 19,oQ 21 (cF 47 [(.t 16),(.t 20)]),qI 22 4 14 15,oN (.store 4 (.t 22) (.t 21))]))) (rR [0,5,10,11] [oQ 23 (.bin .add (.t 11) (.c (.int .i64 1))),qM 11 23]))))))) (.seq (rR [4] [qM 24 5,qM 4 24]) .ret))))
theorem qU(hn:vals.length<=25)(h:SP Tryz.prog true vals bs qH [.slot 4] Q):AM.Sem Tryz.prog 88 vals bs Q:=
 oZ (keeps:=[(0,[0,1]),(1,[0,5]),(2,[0,5,10,11]),(3,[0,5,10,11,12]),(4,[0,5,6,10,11]),(5,[0,5,10,11]),(6,[0,5,10,11]),(7,[4])]) (solo:=[]) Tryz.func88 rfl hn h
def pN:RC:=
 (.seq (rR [1,2] [oQ 2 (.box (.t 0)),oQ 3 (.mov (.c (.bool false)))]) (.seq (rR [3] [qF 4 0 2,qL 5 4,qL 6 1,oQ 7 (.bin .eql (.t 5) (.t 6)),qM 3 7]) .ret))
theorem pX(hn:vals.length<=8)(h:SP Tryz.prog true vals bs pN [.slot 3] Q):AM.Sem Tryz.prog 126 vals bs Q:=
 oZ (keeps:=[(0,[1,2]),(1,[3])]) (solo:=[]) Tryz.func126 rfl hn h
def cV:RC:=
 (.seq (rR [0,1] [oQ 4 (.mov (.c (.int .i64 0)))]) (.seq (.seq (rR [0,1,7,8] [qM 6 0,oQ 7 (.len false (.t 6)),oQ 8 (.mov (.c (.int .i64 0)))]) (.block 0 (.loop (.seq (rR [0,1,7,8,9] [oQ 9 (.bin .lss (.t 8) (.t 7))]) (.seq (.cond (.t 9) .skip (.exit 0)) (.seq (.block 1 (.seq (rR [0,1,5,7,8] [qM 10 8,qM 5 10]) (.seq (rR [0,1,5,7,8,16] [qM 11 1,qM 12 0,qM 13 5,qI 14 5 12 13,qA 15 5 14,oQ 16 (.dD (.t 11) [(.t 15)])]) (.cond (.t 16) (.seq (rR [4] [qM 17 5,qM 4 17]) .ret) .skip)))) (rR [0,1,7,8] [oQ 18 (.bin .add (.t 8) (.c (.int .i64 1))),qM 8 18]))))))) (.seq (rR [4] [oQ 4 (.mov (.c (.int .i64 (-1))))]) .ret)))
theorem cW(hn:vals.length<=19)(h:SP Tryz.prog true vals bs cV [.slot 4] Q):AM.Sem Tryz.prog 125 vals bs Q:=
 oZ (keeps:=[(0,[0,1]),(1,[0,1,7,8]),(2,[0,1,7,8,9]),(3,[0,1,5,7,8]),(4,[0,1,5,7,8,16]),(5,[4]),(6,[0,1,7,8]),(7,[4])]) (solo:=[]) Tryz.func125 rfl hn h
def dT:RC:=
 (.seq (rR [0] [oQ 2 (.mov (.c (.sl .full [])))]) (.seq (.seq (rR [0,4] [qM 3 0,oQ 4 (.eff (.Cv false) [(.t 3)])]) (.cond (.t 4) (.seq (rR [2] [oQ 2 (.mov (.c (.sl .full [])))]) .ret) .skip)) (.seq (rR [2] [oQ 5 (.aG 4 []),qM 6 0,oQ 7 (.eff (.mG 4) [(.t 5),(.t 6)]),qM 2 7]) .ret)))
theorem dU(hn:vals.length<=8)(h:SP Tryz.prog true vals bs dT [.slot 2] Q):AM.Sem Tryz.prog 127 vals bs Q:=
 oZ (keeps:=[(0,[0]),(1,[0,4]),(2,[2]),(3,[2]),(1000000,[7])]) (solo:=[]) Tryz.func127 rfl hn h
end Go.CK
namespace Go.CK
open Go.AM
end Go.CK
namespace Go.CK
open Go.AM
theorem PK(σ M:Int->Tm)(t:Tm):app σ (app M t)=app (λv=>app σ (M v)) t:=by
 induction t using Tm.bD with
 |h k n s l ih=>
 generalize ha:Tm.mk k n s l=t;replace ih:∀x∈t.args,app σ (app M x)=app (λv=>app σ (M v)) x:=by subst ha;exact ih
 clear ha
 by_cases h1:t.kind=1
 .rw [app_1 h1,app_1 h1]
 .by_cases h2:t.kind=2
  .rw [x6 h2,x6 (show (Tm.mk t.kind t.num t.name (t.args.map (app M))).kind=2 from h2),x6 h2];simp only[Tm.kind,Tm.num,Tm.name,Tm.args,List.map_map];congr 1;exact List.map_congr_left λx hx=>ih x hx
  .rw [HK h1 h2,HK h1 h2,HK h1 h2]
end Go.CK
namespace Go.CK
open Go.AM Go.Proofs
theorem Fk{l:List Tm}(hl:l.length<=4294967296):AM.Sem Tryz.prog 127 [.sl .no (l.map Tm.av)] [] λr bs'=>∃k,l.length<=k/\r=.bsl 0 l.length k/\bs'=[aL tmA 4 k (l.map some)]:=by
 refine dU (by simp) ?_
 conv=>whnf
 skip;refine Jo.no λb hb=>?_
 conv=>whnf
 repeat' (refine gC ?_;refine aq.any (λhc=>?_) (λhc=>?_))<;>conv=>whnf
 .have hl0:l=[]:=by simpa using hb hc
  subst hl0;exact af.wO 2 rfl (af.slot ⟨0,ZG _,rfl,rfl⟩)
 .rw [<-j0];refine lh.GN (l':=l.map some) bp (by rw[ZF];exact hl) λk hk=>?_
  conv=>whnf
  skip;rw[ZF] at hk;exact af.slot ⟨k,hk,by simp[St.get,ak],rfl⟩
def He(b:List Bnd)(v:Int):Int:=match b.findIdx? λx=>decide (x.v=v) with
 |none=>-1
 |some i=>i
theorem DR{b:List Bnd}{v:Int}(h:∀(i:Nat) (x:Bnd),b[i]? =some x->¬x.v=v):He b v=-1/\aX b v=none:=by
 have h1:b.findIdx? (λx=>decide (x.v=v))=none:=by
  rw[List.findIdx?_eq_none_iff];intro x hx;obtain⟨i,hi⟩:=YQ hx;exact decide_eq_false (h i x hi)
 refine⟨by unfold He;rw[h1],?_⟩
 induction b with
 |nil=>rfl
 |cons y b ih=>
  rw[aX,if_neg (h 0 y rfl)];refine ih (λi x hx=>h (i+1) x (by simpa using hx)) ?_
  rw[List.findIdx?_eq_none_iff] at h1|-;exact λx hx=>h1 x (ZQ _ hx)
theorem DS{b:List Bnd}{v:Int}{i:Nat}{x:Bnd}(hx:b[i]? =some x)(hv:x.v=v)(h:∀(j:Nat) (y:Bnd),j<i->b[j]? =some y->¬y.v=v):He b v=i/\aX b v=some x.t:=by
 have h1:b.findIdx? (λx=>decide (x.v=v))=some i:=by
  rw[List.findIdx?_eq_some_iff_getElem];obtain⟨hi,he⟩:=ZB.1 hx;refine⟨hi,by rw[he];exact decide_eq_true hv,λj hj=>?_⟩
  have:=h j _ hj (ZA (by omega))
  simpa using this
 refine⟨by unfold He;rw[h1],?_⟩
 clear h1
 induction b generalizing i with
 |nil=>simp at hx
 |cons y b ih=>
  cases i with
  |zero=>
   simp at hx;subst hx
   rw[aX,if_pos hv]
  |succ i=>
   rw[aX,if_neg (h 0 y (by omega) rfl)]
   exact ih (by simpa using hx) λj z hj hz=>h (j+1) z (by omega) (by simpa using hz)
theorem AB(x:Bnd)(v:Int):AM.Sem Tryz.prog 126 [x.av,.ptr 0 0] [.cells [.int .i64 v]] λr bs'=>r=.bool (decide (x.v=v))/\bs'=[.cells [.int .i64 v]]:=by
 refine pX (by simp) ?_
 conv=>whnf
 skip;refine af.lay [some 0] oko ?_
 conv=>whnf
 repeat' refine af.nrm ?_<;>conv=>whnf
 exact⟨rfl,rfl⟩
theorem EX{b:List Bnd}{v:Int}(hb:b.length<=4000000000):AM.Sem Tryz.prog 125 [.sl .no (b.map Bnd.av),.fn (.func 126) [] [.ptr 0 0]] [.cells [.int .i64 v]] λr bs'=>r=.int .i64 (He b v)/\bs'=[.cells [.int .i64 v]]:=by
 refine cW (by simp) ?_
 conv=>whnf
 repeat' refine gL (.map ?_)<;>conv=>whnf
 refine aw.by (fb:=true) (λ_ (j:Nat)=>⟨[(0,.sl .no (b.map Bnd.av)),(1,.fn (.func 126) [] [.ptr 0 0]),(7,.int .i64 (b.length:Int)),(8,.int .i64 (j:Int))],[.cells [.int .i64 v]],1⟩) (λj=>j<=b.length/\∀(i:Nat) (x:Bnd),i<j->b[i]? =some x->¬x.v=v) (λj=>b.length-j) 0 ⟨ZJ _,λi x h=>by omega⟩ ?_ ?_
 .exact au
 .rintro j ⟨q1,q2⟩
  by_cases hj:j<b.length
  .obtain ⟨x,hx⟩:∃x,b[j]? =some x:=⟨_,ZA hj⟩
   by_cases hv:x.v=v
   .obtain ⟨h1,_⟩:=DS hx hv q2;have hl:=AB x v;rw[decide_eq_true hv] at hl;rw[h1]
    conv=>whnf
    repeat' (first|refine gC (gD (cI ?_))|refine gI (gM (iE ?_))|refine gH (hB ?_))<;>conv=>whnf
    refine ab.ate [0] hl rfl rfl ?_
    conv=>whnf
    repeat' (first|refine gC (cY ?_)|refine af.nrm ?_)<;>conv=>whnf
    exact⟨rfl,rfl⟩
   .have hl:=AB x v;rw[decide_eq_false hv] at hl
    conv=>whnf
    repeat' (first|refine gC (gD (cI ?_))|refine gI (gM (iE ?_))|refine gH (hB ?_))<;>conv=>whnf
    refine ab.ate [0] hl rfl rfl ?_
    conv=>whnf
    repeat' (first|refine gC (cN ?_)|refine gW (wI ?_))<;>conv=>whnf
    refine⟨j+1,⟨⟨hj,λi y hi hy=>?_⟩,by omega⟩,?_⟩
    .by_cases e:i=j
     .subst e;rw[hx] at hy;cases hy;exact hv
     .exact q2 i y (by omega) hy
    exact au
  .obtain rfl:j=b.length:=by omega
   obtain⟨h1,_⟩:=DR (v:=v) λi x hx=>q2 i x (ZB.1 hx).1 hx;rw[h1]
   conv=>whnf
   repeat' (first|refine gC (gD (cJ ?_))|refine af.nrm ?_)<;>conv=>whnf
   exact⟨rfl,rfl⟩
theorem ER(b:List Bnd)(v:Int)(hb:b.length<=4000000000):Fun Tryz.prog 87 [.sl .no (b.map Bnd.av),.int .i64 v] (pb (aX b v)):=by
 refine Fun.of (sL (by simp) ?_) rfl (xz _)
 have hi:=EX (v:=v) hb
 by_cases h:∃(i:Nat) (x:Bnd),b[i]? =some x/\x.v=v/\∀(j:Nat) (y:Bnd),j<i->b[j]? =some y->¬y.v=v
 .obtain ⟨i,x,hx,hv,hj⟩:=h;obtain⟨h1,h2⟩:=DS hx hv hj;have hil:=(ZB.1 hx).1;rw[h1] at hi;rw[h2]
  conv=>whnf
  skip;refine ab.ate [0] hi rfl rfl ?_
  conv=>whnf
  repeat' (first|refine gC (gD (cJ ?_))|refine gI (gM (iE ?_)))<;>conv=>whnf
  refine af.lay [some 1] oko ?_
  conv=>whnf
  repeat' refine af.nrm ?_<;>conv=>whnf
  rfl
 .have hno:∀(i:Nat) (x:Bnd),b[i]? =some x->¬x.v=v:=by
   intro i
   induction i using Nat.strongRecOn with
   |ind i ih=>exact λx hx hv=>h ⟨i,x,hx,hv,λj y hj hy=>ih j hj y hy⟩
  obtain⟨h1,h2⟩:=DR hno;rw[h1] at hi;rw[h2]
  conv=>whnf
  skip;refine ab.ate [0] hi rfl rfl ?_
  conv=>whnf
  repeat' refine gC (gD (cI ?_))<;>conv=>whnf
  refine af.lay [some 1] oko ?_
  conv=>whnf
  repeat' refine af.nrm ?_<;>conv=>whnf
  rfl
theorem FX{α:Type}{f:α->α}{l:List α}{j:Nat}{x:α}(hx:l[j]? =some x):(((l.take j).map f++l.drop j).map some)[j]? =some (some x)/\(((l.take j).map f++l.drop j).map some).set j (some (f x))=((l.take (j+1)).map f++l.drop (j+1)).map some:=by
 have hj:=(ZB.1 hx).1;have hd:l.drop j=x::l.drop (j+1):=by rw[ZH hj,(ZB.1 hx).2]
 have hlen:((l.take j).map f).length=j:=by rw[ZF,Zn];omega
 constructor
 .rw [YD,ZZ (by omega),hlen,XY,hd];rfl
 .have:((l.take j).map f++l.drop j).set j (f x)=(l.take (j+1)).map f++l.drop (j+1):=by
   rw[Xc _ _ (by omega),hlen,XY,hd,List.set_cons_zero,Zz,hx,Option.toList_some,Zt,Zg];rfl
  rw[<-List.map_set,this]
theorem C7{b:List Bnd}{l:List Tm} (hL:l.length<=4000000000) (h:∀x∈l,Fun Tryz.prog 47 [.sl .no (b.map Bnd.av),x.avw] (cR b x).avw):Fun Tryz.prog 88 [.sl .no (b.map Bnd.av),.sl .no (l.map Tm.av)] (.sl .no ((l.map (cR b)).map Tm.av)):=by
 refine Fun.of (Sem.assume fun _ _=>?_) rfl rfl;have hg:l.length<=4294967296:=by omega
 refine qU (by simp) ?_
 conv=>whnf
 skip;refine ab.raw (Fk (l:=l) (by omega)) ?_
 rintro r bs' ⟨k,hk,rfl,rfl⟩
 conv=>whnf
 skip;refine aw.by (fb:=true) (λ_ (j:Nat)=>⟨[(0,.sl .no (b.map Bnd.av)),(5,.bsl 0 l.length k),(10,.int .i64 (l.length:Int)),(11,.int .i64 (j:Int))],[aL tmA 4 k (((l.take j).map (cR b)++l.drop j).map some)],0⟩) (λj=>j<=l.length) (λj=>l.length-j) 0 (ZJ _) ?_ ?_
 .rw [YJ,Yd,Ym,Xb];exact au
 .rintro j q1
  by_cases hj:j<l.length
  .obtain ⟨x,hx⟩:∃x,l[j]? =some x:=⟨_,ZA hj⟩;obtain⟨u1,u2⟩:=FX (f:=cR b) hx;have hx1:=h x (ZE hx)
   conv=>whnf
   repeat' (first|refine gC (gD (cI ?_))|refine gN (nS ?_))<;>conv=>whnf
   refine ElN.elem bp rfl u1 ?_
   conv=>whnf
   repeat' (first|refine gF (ab.fn (hx1) ?_)|refine gN (nS ?_))<;>conv=>whnf
   refine EsN.elem bp (λx=>by cases x<;>rfl) (x:=some x) (y:=some (cR b x)) rfl u1 rfl ?_
   conv=>whnf
   repeat' refine gW (wI ?_)<;>conv=>whnf
   refine⟨j+1,⟨hj,by omega⟩,?_⟩
   rw[<-u2];refine ah.at_ ?_ rfl
   conv=>whnf
   refine And.intro ?_ ?_<;>conv=>whnf
   all_goals repeat' (first|(refine gV ?_;first|refine vE ?_|refine vI ?_)|(refine gX ?_;(refine BxN.mk ?_ ?_;(focus (simp[AV.norm,AV.aD,];done))))|exact True.intro)<;>conv=>whnf
  .obtain rfl:j=l.length:=by omega
   rw[Zw,Zj,Zv]
   conv=>whnf
   repeat' refine gC (gD (cJ ?_))<;>conv=>whnf
   refine af.froze bp (l:=(l.map (cR b)).map some) (k:=k) rfl rfl (by simp) (af.slot ?_)
   rw[j0];rfl
theorem vr(b:List Bnd)(hb:b.length<=4000000000)(t:Tm):t.nodes<=1000000->Fun Tryz.prog 47 [.sl .no (b.map Bnd.av),t.avw] (cR b t).avw:=by
 induction t using Tm.bD with
 |h k n s l ih=>
 intro hN;generalize ha:Tm.mk k n s l=t at hN|-;replace ih:∀x∈t.args,x.nodes<=1000000->Fun Tryz.prog 47 [.sl .no (b.map Bnd.av),x.avw] (cR b x).avw:=by subst ha;exact ih
 have hnl:Tm.ai t.args+1<=t.nodes:=by subst ha;simp only[Tm.nodes,Tm.args];omega
 have hlen:=bF t.args
 clear ha;refine Fun.of (tQ (by simp) ?_) rfl rfl
 by_cases h1:t.kind=1
 .rw [HN h1];have hl:=ER b t.num hb
  cases hk:aX b t.num with
  |none=>
   rw[hk,pb] at hl
   conv=>whnf
   repeat' (first|refine gF (ab.fn (hl) ?_)|(refine gC ?_;first|refine cN ?_|refine gD (cI ?_)))<;>conv=>whnf
   refine af.lay [some 1] oko ?_
   conv=>whnf
   repeat' refine af.nrm ?_<;>conv=>whnf
   rfl
  |some x=>
   rw[hk,pb] at hl
   conv=>whnf
   repeat' (first|refine gF (ab.fn (hl) ?_)|(refine gC ?_;first|refine cY ?_|refine gD (cI ?_)))<;>conv=>whnf
   refine af.lay [some 1] oko ?_
   conv=>whnf
   repeat' refine af.nrm ?_<;>conv=>whnf
   rfl
 .by_cases h2:t.kind=2
  .rw [HM h2];have hap:=C7 (by omega) fun x hx=>ih x hx (by have:=kP hx;omega)
   conv=>whnf
   repeat' (first|refine gF (ab.fn (hap) ?_)|(refine gC ?_;(refine gD ?_;first|refine cI ?_|refine cJ ?_)))<;>conv=>whnf
   refine af.lay [some 1] oko ?_
   conv=>whnf
   repeat' refine af.nrm ?_<;>conv=>whnf
   rfl
  .rw [HL h1 h2]
   conv=>whnf
   repeat' refine gC (gD (cJ ?_))<;>conv=>whnf
   refine af.lay [some 1] oko ?_
   conv=>whnf
   repeat' refine af.nrm ?_<;>conv=>whnf
   rfl
end Go.CK
namespace Go.CK
open Go.AM Go.Proofs
end Go.CK
namespace Go.CK
open Go.AM Go.Proofs
end Go.CK
namespace Go.CK
open Go.AM Go.Proofs
end Go.CK
namespace Go.CK
open Go.AM Go.Proofs
end Go.CK
namespace Go.CK
open Go.AM Go.Proofs
theorem zz(a b:Tm):Fun Tryz.prog 46 [a.avw,b.avw] (.bool (decide (a.cmp b=0))):=by
 refine Fun.of (yO (by simp) ?_) rfl rfl
 conv=>whnf
 repeat' (first|refine gF (ab.fn (Df a b) ?_)|refine af.nrm ?_)<;>conv=>whnf
end Go.CK
namespace Go.CK
def Br:ByteArray:=⟨#[43]⟩
def Bp:ByteArray:=⟨#[45]⟩
def Bq:ByteArray:=⟨#[42]⟩
def zc:ByteArray:=⟨#[47]⟩
def cMod:ByteArray:=⟨#[37]⟩
def mz(s:ByteArray):Bool:=decide (s=Br\/s=Bp\/s=Bq\/s=zc\/s=cMod)
def inR(n:Int):Bool:=decide (-2147483648<=n/\n<=2147483648)
def quo(a b:Int):Int:=if a.tmod b≠0/\((a<0)≠(b<0)) then a.tdiv b-1 else a.tdiv b
def flr(a b:Int):Int:=if b<0 then (if 0<=-a then (-a).tdiv (-b) else-((-b-1- -a).tdiv (-b))) else (if 0<=a then a.tdiv b else-((b-1-a).tdiv b))
theorem Gv(a b:Int)(hb:b≠0):quo a b=a.fdiv b:=by
 unfold quo;have hdvd:(b∣a)↔a.tmod b=0:=⟨λh=>Int.tmod_eq_zero_of_dvd h,λh=>Int.dvd_of_tmod_eq_zero h⟩;rw[Int.fdiv_eq_tdiv]
 by_cases h0:a.tmod b=0
 .simp [h0,hdvd]
 .rcases Int.lt_or_gt_of_ne hb with hb'|hb'
  .have e1:b.sign=-1:=Int.sign_eq_neg_one_of_neg hb'
   by_cases ha:a<0
   .simp [h0,hdvd,ha,hb',e1,show¬0<=a by omega,show¬0<=b by omega]
   .simp [h0,hdvd,ha,hb',show 0<=a by omega,show¬0<=b by omega]
  .have e1:b.sign=1:=Int.sign_eq_one_of_pos hb'
   by_cases ha:a<0
   .simp [h0,hdvd,ha,e1,show¬b<0 by omega,show¬0<=a by omega,show 0<=b by omega]
   .simp [h0,hdvd,ha,show¬b<0 by omega,show 0<=a by omega,show 0<=b by omega]
theorem LF{a b q:Int}(h:(0<b/\0<=a-q*b/\a-q*b<b)\/(b<0/\a-q*b<=0/\b<a-q*b)):a.fdiv b=q:=by
 rcases h with ⟨hb,h1,h2⟩|⟨hb,h1,h2⟩
 .rw [XJ _ (by omega)]
  have e:a=(a-q*b)+q*b:=by omega
  rw[e,Int.add_mul_ediv_right _ _ (by omega),Int.ediv_eq_zero_of_lt h1 h2];omega
 .rw [<-Int.neg_fdiv_neg,XJ _ (by omega)]
  have e:-a=(-(a-q*b))+q*(-b):=by rw[Int.mul_neg];omega
  rw[e,Int.add_mul_ediv_right _ _ (by omega),Int.ediv_eq_zero_of_lt (by omega) (by omega)];omega
theorem Lx{a b:Int}(ha:0<=a)(hb:0<b):0<=a-a.tdiv b*b/\a-a.tdiv b*b<b:=by
 rw[Int.tdiv_eq_ediv_of_nonneg ha];have h1:=Int.emod_nonneg a (show b≠0 by omega)
 have h2:=Int.emod_lt_of_pos a hb;have h3:=Int.emod_add_mul_ediv a b;rw[Int.mul_comm b] at h3;omega
theorem LL(a b:Int)(hb:b≠0):flr a b=a.fdiv b:=by
 symm;apply LF;unfold flr
 by_cases hb':b<0
 .right;rw[if_pos hb']
  by_cases ha:0<=-a
  .rw [if_pos ha];have h:=Lx ha (show 0< -b by omega)
   rw[Int.mul_neg] at h;omega
  .rw [if_neg ha];have h:=Lx (a:=-b-1- -a) (b:=-b) (by omega) (by omega)
   rw[Int.mul_neg] at h;rw[Int.neg_mul];omega
 .left;rw[if_neg hb']
  by_cases ha:0<=a
  .rw [if_pos ha];have h:=Lx ha (show 0<b by omega)
   omega
  .rw [if_neg ha];have h:=Lx (a:=b-1-a) (b:=b) (by omega) (by omega)
   rw[Int.neg_mul];omega
theorem uQ{a b:Int}(hb:b≠0)(h1:-2147483648<=a)(h2:a<=2147483648):-2147483648<=a.fdiv b/\a.fdiv b<=2147483648:=by
 rcases Int.lt_or_gt_of_ne hb with hb'|hb'
 .rw [<-Int.neg_fdiv_neg,XJ _ (by omega)]
  have h3:=Int.natAbs_ediv_le_natAbs (-a) (-b);omega
 .rw [XJ _ (by omega)]
  have h3:=Int.natAbs_ediv_le_natAbs a b;omega
theorem BZ{a:Int}(b:Int)(h1:-2147483648<=a)(h2:a<=2147483648):-2147483648<=a.tdiv b/\a.tdiv b<=2147483648:=by
 have h3:=Int.natAbs_tdiv a b;have h4:=Nat.div_le_self a.natAbs b.natAbs;have h5:(a.tdiv b).natAbs<=a.natAbs:=by rw[h3];exact h4
 omega
theorem qY{a b:Int}(h1:-2147483648<=a)(h2:a<=2147483648)(h3:-2147483648<=b)(h4:b<=2147483648):-4611686018427387904<=a*b/\a*b<=4611686018427387904:=by
 have h5:(a*b).natAbs<=4611686018427387904:=by
  rw[Int.natAbs_mul];exact YM (Nat.mul_le_mul (show a.natAbs<=2147483648 by omega) (show b.natAbs<=2147483648 by omega)) (by decide)
 omega
def opv(s:ByteArray)(a b:Int):Int×Int:=
 if s=Br then (a+b,0) else if s=Bp then (a-b,0) else if s=Bq then (a*b,0) else if b=0 then (0,12)
 else if s=zc then (a.fdiv b,0) else (a-a.fdiv b*b,0)
def apply(s:ByteArray)(a b:Int):Int×Int:=
 if mz s=false then (0,7) else if (inR a&&inR b)=false then (0,5) else
 if (opv s a b).2≠0 then (0,(opv s a b).2) else if inR (opv s a b).1=false then (0,5) else ((opv s a b).1,0)
theorem qk{n:Int}:inR n=true↔-2147483648<=n/\n<=2147483648:=by simp[inR]
theorem Ck{s:ByteArray}{a b:Int}(ia:inR a=true)(ib:inR b=true):bW (opv s a b).1:=by
 have ha':=qk.1 ia;have hb':=qk.1 ib;have hm:=qY ha'.1 ha'.2 hb'.1 hb'.2;unfold opv bW;split
 .dsimp only;omega
 split
 .dsimp only;omega
 split
 .dsimp only;omega
 split
 .dsimp only;omega
 rename_i h4;have h5:=uQ h4 ha'.1 ha'.2;have h6:=qY h5.1 h5.2 hb'.1 hb'.2;split
 .dsimp only;omega
 .dsimp only;omega
end Go.CK
namespace Go.CK
def aR:Tm->Int×Int
 |.mk k n s [a,b]=>
  if k=1 then (0,17) else if k=0 then (if inR n=true then (n,0) else (0,5)) else if k≠2\/mz s=false then (0,11) else
  if (aR a).2≠0 then (0,(aR a).2) else if (aR b).2≠0 then (0,(aR b).2) else apply s (aR a).1 (aR b).1
 |.mk k n _ _=>if k=1 then (0,17) else if k=0 then (if inR n=true then (n,0) else (0,5)) else (0,11)
theorem A7{k n:Int}{s:ByteArray}{l:List Tm}(h:l.length≠2):aR (.mk k n s l)=if k=1 then (0,17) else if k=0 then (if inR n=true then (n,0) else (0,5)) else (0,11):=by
 match l,h with
 |[],_=>simp[aR]
 |[a],_=>simp[aR]
 |a::b::c::r,_=>simp[aR]
theorem Ht{k n:Int}{s:ByteArray}{a b:Tm}:aR (.mk k n s [a,b])=if k=1 then (0,17) else if k=0 then (if inR n=true then (n,0) else (0,5)) else if k≠2\/mz s=false then (0,11) else
  if (aR a).2≠0 then (0,(aR a).2) else if (aR b).2≠0 then (0,(aR b).2) else apply s (aR a).1 (aR b).1:=by rw[aR]
theorem oK{α:Type}{l:List α}(h:l.length=2):∃a b,l=[a,b]:=by
 match l,h with
 |[a,b],_=>exact⟨a,b,rfl⟩
theorem uV{k n:Int}{s:ByteArray}{l:List Tm}(h2:k≠2):aR (.mk k n s l)=if k=1 then (0,17) else if k=0 then (if inR n=true then (n,0) else (0,5)) else (0,11):=by
 by_cases h:l.length=2
 .obtain ⟨a,b,rfl⟩:=oK h;rw[Ht,if_pos (show k≠2\/mz s=false from .inl h2)]
 .exact A7 h
theorem QT{n:Int}{s:ByteArray}{l:List Tm}(h:inR n=true):aR (.mk 0 n s l)=(n,0):=by
 rw[uV (by simp)];simp[h]
theorem QD{t:Tm}(h:t.kind=0)(hn:inR t.num=true):aR t=(t.num,0):=by
 obtain⟨k,n,s,l⟩:=t;simp only[Tm.kind,Tm.num] at*;subst h;exact QT hn
theorem Fb{n:Int}{s:ByteArray}{l:List Tm}(h:l.length≠2):aR (.mk 2 n s l)=(0,11):=by
 rw[A7 h];simp
theorem xP{n:Int}{s:ByteArray}{a b:Tm}:aR (.mk 2 n s [a,b])=if mz s=false then (0,11) else
  if (aR a).2≠0 then (0,(aR a).2) else if (aR b).2≠0 then (0,(aR b).2) else apply s (aR a).1 (aR b).1:=by
 rw[aR];simp
end Go.CK
