/-
  Texts of this aQ joined (wip/gen/bundle.py),those declarations only that are needed:RcBnd BdA BdB. By an AI agent.
-/
import Derived.Test.YtahnpgfkkngimaaGreatProg
import Derived.Test.YtahnpgfkkngimaaGreatBap
import Derived.Test.YtahnpgfkkngimaaGreatBbh
import Derived.Test.YtahnpgfkkngimaaGreatBbd
import Derived.Test.YtahnpgfkkngimaaGreatBbf
set_option linter.unusedSimpArgs false
set_option linter.unusedVariables false
namespace Go.CK
open Go.AM Go.Proofs
variable {vals:List AV} {bs:List Box} {Q:AV->List Box->Prop}
def tD:RC:=
 (.seq
 (rR [0] [
 oQ 2 (.mov (.c (.bool false)))])
 (.seq
 (rR [0,3] [
 qM 12 0,oQ 13 (.len false (.t 12)),oQ 14 (.eff .mkM [(.t 13)]),qM 3 14])
 (.seq
 (.seq
 (rR [0,3,15,16,17] [
 qM 15 0,oQ 16 (.len false (.t 15)),oQ 17 (.mov (.c (.int .i64 0)))])
 (.block 0
 (.loop
 (.seq
 (rR [0,3,15,16,17,18] [
 oQ 18 (.bin .lss (.t 17) (.t 16))])
 (.seq
 (.cond (.t 18)
 .skip
 (.exit 0))
 (.seq
 (.block 1
 (.seq
 (rR [0,3,4,5,15,16,17] [
 qM 19 17,qI 20 5 15 17,qA 21 5 20,oQ 5 (.box (.c (.agg [(.int .i64 0),(.int .i64 0),(.int .i64 0),(.str ⟨⟨[]⟩⟩),(.sl .full [])]))),qM 4 19,oN (.store 5 (.t 5) (.t 21))])
 (.seq
 (.seq
 (.reg true [0,3,5,15,16,17,50] [
 qF 22 0 5,qL 23 22,oQ 24 (.bin .lss (.t 23) (.c (.int .i64 0))),oQ 25 (.take 24),oG 26 25 false (.aT 0 (.t 5)),oG 27 25 false (.load false 1 (.t 26)),oG 28 25 false (.bin .gtr (.t 27) (.c (.int .i64 1048576))),oQ 29 (.pick (.t 25) (.c (.bool true)) (.t 28)),oQ 30 (.take 29),oG 31 30 false (.take 4),oG 32 30 false (.bin .gtr (.t 31) (.c (.int .i64 0))),oG 33 30 false (.take 32),oG 34 33 true (.take 0),oG 35 33 true (.take 4),oG 36 33 true (.bin .sub (.t 35) (.c (.int .i64 1))),oG 37 33 true (.idx 5 (.t 34) (.t 36)),oG 38 33 true (.aT 0 (.t 37)),oG 39 33 true (.load false 1 (.t 38)),oG 40 33 true (.aT 0 (.t 5)),oG 41 33 true (.load false 1 (.t 40)),oG 42 33 true (.bin .geq (.t 39) (.t 41)),oG 43 30 false (.pick (.t 33) (.t 42) (.c (.bool false))),oQ 44 (.pick (.t 30) (.c (.bool true)) (.t 43)),oQ 45 (.take 44),oG 46 45 false (.aT 1 (.t 5)),oG 47 45 false (.load true 4 (.t 46)),oG 48 45 false (cF 78 [(.t 47)]),oG 49 45 false (.un .not (.t 48)),oQ 50 (.pick (.t 45) (.c (.bool true)) (.t 49))])
 (.cond (.t 50)
 (.seq
 (rR [2] [
 oQ 2 (.mov (.c (.bool false)))])
 .ret)
 .skip))
 (rR [0,3,15,16,17] [
 qM 51 3,qF 52 0 5,qL 53 52,oQ 54 (.build [] []),oN (.eff .vV [(.t 51),(.t 53),(.t 54)])]))))
 (rR [0,3,15,16,17] [
 oQ 55 (.bin .add (.t 17) (.c (.int .i64 1))),qM 17 55])))))))
 (.seq
 (.seq
 (rR [3,56,57,58] [
 qM 56 0,oQ 57 (.len false (.t 56)),oQ 58 (.mov (.c (.int .i64 0)))])
 (.block 2
 (.loop
 (.seq
 (rR [3,56,57,58,59] [
 oQ 59 (.bin .lss (.t 58) (.t 57))])
 (.seq
 (.cond (.t 59)
 .skip
 (.exit 2))
 (.seq
 (.block 3
 (.seq
 (rR [3,7,56,57,58] [
 qI 60 5 56 58,qA 61 5 60,oQ 7 (.box (.c (.agg [(.int .i64 0),(.int .i64 0),(.int .i64 0),(.str ⟨⟨[]⟩⟩),(.sl .full [])]))),oN (.store 5 (.t 7) (.t 61))])
 (.seq
 (rR [3,56,57,58,64,65,66] [
 qF 62 1 7,qA 63 4 62,oQ 64 (cF 110 [(.t 63)]),oQ 65 (.len false (.t 64)),oQ 66 (.mov (.c (.int .i64 0)))])
 (.block 4
 (.loop
 (.seq
 (rR [3,56,57,58,64,65,66,67] [
 oQ 67 (.bin .lss (.t 66) (.t 65))])
 (.seq
 (.cond (.t 67)
 .skip
 (.exit 4))
 (.seq
 (.block 5
 (.seq
 (rR [3,9,56,57,58,64,65,66] [
 qI 68 1 64 66,qL 69 68,qM 9 69])
 (.seq
 (rR [3,11,56,57,58,64,65,66] [
 qM 71 3,qM 72 9,oQ 73 (.eff (.getM true (.agg [])) [(.t 71),(.t 72)]),qM 70 73,oQ 74 (.ext 0 (.t 70)),oQ 75 (.ext 1 (.t 70)),oQ 10 (.box (.c (.agg []))),oN (.store 0 (.t 10) (.t 74)),qM 11 75])
 (.seq
 (rR [3,56,57,58,64,65,66,76] [
 qM 76 11])
 (.cond (.t 76)
 (.seq
 (rR [2] [
 oQ 2 (.mov (.c (.bool false)))])
 .ret)
 .skip)))))
 (rR [3,56,57,58,64,65,66] [
 oQ 77 (.bin .add (.t 66) (.c (.int .i64 1))),qM 66 77])))))))))
 (rR [3,56,57,58] [
 oQ 78 (.bin .add (.t 58) (.c (.int .i64 1))),qM 58 78])))))))
 (.seq
 (rR [2] [
 oQ 2 (.mov (.c (.bool true)))])
 .ret)))))
theorem tP (hn:vals.length≤79) (h:SP Tryz.prog true vals bs tD [.slot 2] Q):AM.Sem Tryz.prog 79 vals bs Q:=
 oZ (keeps:=[(0,[0]),(1,[0,3]),(2,[0,3,15,16,17]),(3,[0,3,15,16,17,18]),(4,[0,3,4,5,15,16,17]),(5,[0,3,5,15,16,17,50]),(6,[2]),(7,[0,3,15,16,17]),(8,[0,3,15,16,17]),(9,[3,56,57,58]),(10,[3,56,57,58,59]),(11,[3,7,56,57,58]),(12,[3,56,57,58,64,65,66]),(13,[3,56,57,58,64,65,66,67]),(14,[3,9,56,57,58,64,65,66]),(15,[3,11,56,57,58,64,65,66]),(16,[3,56,57,58,64,65,66,76]),(17,[2]),(18,[3,56,57,58,64,65,66]),(19,[3,56,57,58]),(20,[2])]) (solo:=[]) Tryz.func79 rfl hn h
def sH:RC:=
 (.seq
 (rR [0,3,4] [
 oQ 3 (.box (.t 1)),oQ 4 (.box (.c (.agg [(.int .i64 0),(.int .i64 0),(.str ⟨⟨[]⟩⟩),(.sl .full [])]))),oQ 5 (.mov (.c (.bool false)))])
 (.seq
 (rR [0,4,6] [
 qM 7 0,oQ 8 (.ug (.func 126) [] [(.t 3)]),oQ 9 (cF 125 [(.t 7),(.t 8)]),qM 6 9])
 (.seq
 (.seq
 (rR [0,4,6,11] [
 qM 10 6,oQ 11 (.bin .lss (.t 10) (.c (.int .i64 0)))])
 (.cond (.t 11)
 (.seq
 (rR [4,5] [
 oQ 12 (.build [(.int .i64 0),(.int .i64 0),(.str ⟨⟨[]⟩⟩),(.sl .full [])] []),oN (.store 4 (.t 4) (.t 12)),oQ 5 (.mov (.c (.bool false)))])
 .ret)
 .skip))
 (.seq
 (rR [4,5] [
 qM 13 0,qM 14 6,qI 15 5 13 14,qF 16 1 15,qA 17 4 16,oN (.store 4 (.t 4) (.t 17)),oQ 5 (.mov (.c (.bool true)))])
 .ret))))
theorem sL (hn:vals.length≤18) (h:SP Tryz.prog true vals bs sH [.cell 4 true 4,.slot 5] Q):AM.Sem Tryz.prog 87 vals bs Q:=
 oZ (keeps:=[(0,[0,3,4]),(1,[0,4,6]),(2,[0,4,6,11]),(3,[4,5]),(4,[4,5])]) (solo:=[]) Tryz.func87 rfl hn h
def tE:RC:=
 (.seq
 (rR [0,3,4] [
 oQ 3 (.box (.t 1)),oQ 4 (.box (.c (.agg [(.int .i64 0),(.int .i64 0),(.str ⟨⟨[]⟩⟩),(.sl .full [])])))])
 (.seq
 (.seq
 (rR [0,3,4,8] [
 qF 7 0 3,qL 8 7])
 (.block 0
 (.seq
 (rR [0,3,4,8,9] [
 oQ 10 (.bin .eql (.t 8) (.c (.int .i64 1))),qM 9 10])
 (.cond (.t 9)
 (.seq
 (rR [3,4,5,6] [
 qM 12 0,qF 13 1 3,qL 14 13,oQ 15 (cF 87 [(.t 12),(.t 14)]),qM 11 15,oQ 16 (.ext 0 (.t 11)),oQ 17 (.ext 1 (.t 11)),oQ 5 (.box (.c (.agg [(.int .i64 0),(.int .i64 0),(.str ⟨⟨[]⟩⟩),(.sl .full [])]))),oN (.store 4 (.t 5) (.t 16)),qM 6 17])
 (.seq
 (rR [3,4,5,18] [
 qM 18 6])
 (.cond (.t 18)
 (.seq
 (rR [4] [
 qA 19 4 5,oN (.store 4 (.t 4) (.t 19))])
 .ret)
 .skip)))
 (.seq
 (rR [0,3,4,20] [
 oQ 21 (.bin .eql (.t 8) (.c (.int .i64 2))),qM 20 21])
 (.cond (.t 20)
 (rR [3,4] [
 qM 22 0,qF 23 3 3,qL 24 23,oQ 25 (cF 88 [(.t 22),(.t 24)]),qF 26 3 3,oN (.store 1 (.t 26) (.t 25))])
 .skip))))))
 (.seq
 (rR [4] [
 qA 27 4 3,oN (.store 4 (.t 4) (.t 27))])
 .ret)))
theorem tQ (hn:vals.length≤28) (h:SP Tryz.prog true vals bs tE [.cell 4 true 4] Q):AM.Sem Tryz.prog 47 vals bs Q:=
 oZ (keeps:=[(0,[0,3,4]),(1,[0,3,4,8]),(2,[0,3,4,8,9]),(6,[0,3,4,20]),(7,[3,4]),(3,[3,4,5,6]),(4,[3,4,5,18]),(5,[4]),(8,[4])]) (solo:=[]) Tryz.func47 rfl hn h
def qH:RC:=
 (.seq
 (rR [0,1] [
 oQ 4 (.mov (.c (.sl .full [])))])
 (.seq
 (rR [0,5] [
 qM 7 1,oQ 8 (cF 127 [(.t 7)]),qM 5 8])
 (.seq
 (.seq
 (rR [0,5,10,11] [
 qM 9 5,oQ 10 (.len false (.t 9)),oQ 11 (.mov (.c (.int .i64 0)))])
 (.block 0
 (.loop
 (.seq
 (rR [0,5,10,11,12] [
 oQ 12 (.bin .lss (.t 11) (.t 10))])
 (.seq
 (.cond (.t 12)
 .skip
 (.exit 0))
 (.seq
 (.block 1
 (.seq
 (rR [0,5,6,10,11] [
 qM 13 11,qM 6 13])
 (rR [0,5,10,11] [
 qM 14 5,qM 15 6,qM 16 0,qM 17 5,qM 18 6,qI 19 4 17 18,qA 20 4 19,oQ 21 (cF 47 [(.t 16),(.t 20)]),qI 22 4 14 15,oN (.store 4 (.t 22) (.t 21))])))
 (rR [0,5,10,11] [
 oQ 23 (.bin .add (.t 11) (.c (.int .i64 1))),qM 11 23])))))))
 (.seq
 (rR [4] [
 qM 24 5,qM 4 24])
 .ret))))
theorem qU (hn:vals.length≤25) (h:SP Tryz.prog true vals bs qH [.slot 4] Q):AM.Sem Tryz.prog 88 vals bs Q:=
 oZ (keeps:=[(0,[0,1]),(1,[0,5]),(2,[0,5,10,11]),(3,[0,5,10,11,12]),(4,[0,5,6,10,11]),(5,[0,5,10,11]),(6,[0,5,10,11]),(7,[4])]) (solo:=[]) Tryz.func88 rfl hn h
def pN:RC:=
 (.seq
 (rR [1,2] [
 oQ 2 (.box (.t 0)),oQ 3 (.mov (.c (.bool false)))])
 (.seq
 (rR [3] [
 qF 4 0 2,qL 5 4,qL 6 1,oQ 7 (.bin .eql (.t 5) (.t 6)),qM 3 7])
 .ret))
theorem pX (hn:vals.length≤8) (h:SP Tryz.prog true vals bs pN [.slot 3] Q):AM.Sem Tryz.prog 126 vals bs Q:=
 oZ (keeps:=[(0,[1,2]),(1,[3])]) (solo:=[]) Tryz.func126 rfl hn h
def cV:RC:=
 (.seq
 (rR [0,1] [
 oQ 4 (.mov (.c (.int .i64 0)))])
 (.seq
 (.seq
 (rR [0,1,7,8] [
 qM 6 0,oQ 7 (.len false (.t 6)),oQ 8 (.mov (.c (.int .i64 0)))])
 (.block 0
 (.loop
 (.seq
 (rR [0,1,7,8,9] [
 oQ 9 (.bin .lss (.t 8) (.t 7))])
 (.seq
 (.cond (.t 9)
 .skip
 (.exit 0))
 (.seq
 (.block 1
 (.seq
 (rR [0,1,5,7,8] [
 qM 10 8,qM 5 10])
 (.seq
 (rR [0,1,5,7,8,16] [
 qM 11 1,qM 12 0,qM 13 5,qI 14 5 12 13,qA 15 5 14,oQ 16 (.dD (.t 11) [(.t 15)])])
 (.cond (.t 16)
 (.seq
 (rR [4] [
 qM 17 5,qM 4 17])
 .ret)
 .skip))))
 (rR [0,1,7,8] [
 oQ 18 (.bin .add (.t 8) (.c (.int .i64 1))),qM 8 18])))))))
 (.seq
 (rR [4] [
 oQ 4 (.mov (.c (.int .i64 (-1))))])
 .ret)))
theorem cW (hn:vals.length≤19) (h:SP Tryz.prog true vals bs cV [.slot 4] Q):AM.Sem Tryz.prog 125 vals bs Q:=
 oZ (keeps:=[(0,[0,1]),(1,[0,1,7,8]),(2,[0,1,7,8,9]),(3,[0,1,5,7,8]),(4,[0,1,5,7,8,16]),(5,[4]),(6,[0,1,7,8]),(7,[4])]) (solo:=[]) Tryz.func125 rfl hn h
def dT:RC:=
 (.seq
 (rR [0] [
 oQ 2 (.mov (.c (.sl .full [])))])
 (.seq
 (.seq
 (rR [0,4] [
 qM 3 0,oQ 4 (.eff (.Cv false) [(.t 3)])])
 (.cond (.t 4)
 (.seq
 (rR [2] [
 oQ 2 (.mov (.c (.sl .full [])))])
 .ret)
 .skip))
 (.seq
 (rR [2] [
 oQ 5 (.aG 4 []),qM 6 0,oQ 7 (.eff (.mG 4) [(.t 5),(.t 6)]),qM 2 7])
 .ret)))
theorem dU (hn:vals.length≤8) (h:SP Tryz.prog true vals bs dT [.slot 2] Q):AM.Sem Tryz.prog 127 vals bs Q:=
 oZ (keeps:=[(0,[0]),(1,[0,4]),(2,[2]),(3,[2]),(1000000,[7])]) (solo:=[]) Tryz.func127 rfl hn h
def tF:RC:=
 (.seq
 (rR [0,1] [
 oQ 4 (.mov (.c (.bool false)))])
 (.seq
 (.seq
 (rR [0,7,8,9] [
 qM 7 1,oQ 8 (.len false (.t 7)),oQ 9 (.mov (.c (.int .i64 0)))])
 (.block 0
 (.loop
 (.seq
 (rR [0,7,8,9,10] [
 oQ 10 (.bin .lss (.t 9) (.t 8))])
 (.seq
 (.cond (.t 10)
 .skip
 (.exit 0))
 (.seq
 (.block 1
 (.seq
 (rR [0,6,7,8,9] [
 qI 11 4 7 9,qA 12 4 11,oQ 6 (.box (.c (.agg [(.int .i64 0),(.int .i64 0),(.str ⟨⟨[]⟩⟩),(.sl .full [])]))),oN (.store 4 (.t 6) (.t 12))])
 (.seq
 (rR [0,7,8,9,15] [
 qA 13 4 6,oQ 14 (cF 78 [(.t 13)]),oQ 15 (.un .not (.t 14))])
 (.cond (.t 15)
 (.seq
 (rR [4] [
 oQ 4 (.mov (.c (.bool false)))])
 .ret)
 .skip))))
 (rR [0,7,8,9] [
 oQ 16 (.bin .add (.t 9) (.c (.int .i64 1))),qM 9 16])))))))
 (.seq
 (rR [4] [
 qM 17 0,oQ 18 (cF 79 [(.t 17)]),qM 4 18])
 .ret)))
theorem tR (hn:vals.length≤19) (h:SP Tryz.prog true vals bs tF [.slot 4] Q):AM.Sem Tryz.prog 40 vals bs Q:=
 oZ (keeps:=[(0,[0,1]),(1,[0,7,8,9]),(2,[0,7,8,9,10]),(3,[0,6,7,8,9]),(4,[0,7,8,9,15]),(5,[4]),(6,[0,7,8,9]),(7,[4])]) (solo:=[]) Tryz.func40 rfl hn h
def tG:RC:=
 (.seq
 (rR [0,4,5] [
 oQ 4 (.box (.t 1)),oQ 5 (.box (.t 2)),oQ 6 (.mov (.c (.sl .full []))),oQ 7 (.mov (.c (.int .i64 0)))])
 (.seq
 (rR [0,4,5,8] [
 oQ 8 (.box (.c (.agg [(.sl .full []),(.sl .full [])])))])
 (.seq
 (rR [0,4,5,8,9] [
 oQ 12 (.ug (.func 80) [(.t 8)] []),qM 9 12])
 (.seq
 (.seq
 (rR [4,5,8,9,13,14,15] [
 qM 13 0,oQ 14 (.len false (.t 13)),oQ 15 (.mov (.c (.int .i64 0)))])
 (.block 0
 (.loop
 (.seq
 (rR [4,5,8,9,13,14,15,16] [
 oQ 16 (.bin .lss (.t 15) (.t 14))])
 (.seq
 (.cond (.t 16)
 .skip
 (.exit 0))
 (.seq
 (.block 1
 (.seq
 (rR [4,5,8,9,11,13,14,15] [
 qI 17 5 13 15,qA 18 5 17,oQ 11 (.box (.c (.agg [(.int .i64 0),(.int .i64 0),(.int .i64 0),(.str ⟨⟨[]⟩⟩),(.sl .full [])]))),oN (.store 5 (.t 11) (.t 18))])
 (.solo 6 [4,5,8,9,13,14,15] [
 qM 19 9,qF 20 0 11,qL 21 20,oQ 22 (cF 81 [(.t 21)]),qF 23 1 11,qA 24 4 23,oQ 25 (.dD (.t 19) [(.t 22),(.t 24)])])))
 (rR [4,5,8,9,13,14,15] [
 oQ 26 (.bin .add (.t 15) (.c (.int .i64 1))),qM 15 26])))))))
 (.seq
 (rR [8] [
 qM 27 9,qA 28 4 4,qA 29 4 5,oQ 30 (.dD (.t 27) [(.t 28),(.t 29)])])
 (.seq
 (rR [6,7] [
 qF 31 0 8,qL 32 31,qF 33 1 8,qL 34 33,oQ 35 (cF 82 [(.t 32),(.t 34)]),oQ 36 (.ext 0 (.t 35)),oQ 37 (.ext 1 (.t 35)),qM 6 36,qM 7 37])
 .ret))))))
theorem tS (hn:vals.length≤38) (h:SP Tryz.prog true vals bs tG [.slot 6,.slot 7] Q):AM.Sem Tryz.prog 41 vals bs Q:=
 oZ (keeps:=[(0,[0,4,5]),(1,[0,4,5,8]),(2,[0,4,5,8,9]),(3,[4,5,8,9,13,14,15]),(4,[4,5,8,9,13,14,15,16]),(5,[4,5,8,9,11,13,14,15]),(6,[4,5,8,9,13,14,15]),(7,[4,5,8,9,13,14,15]),(8,[8]),(9,[6,7])]) (solo:=[(6,6)]) Tryz.func41 rfl hn h
def wc:RC:=
 (.seq
 (rR [0,4,5,7] [
 oQ 4 (.box (.t 1)),oQ 5 (.box (.t 2)),oQ 6 (.mov (.c (.sl .full []))),oQ 7 (.mov (.c (.sl .full []))),oQ 8 (.mov (.c (.int .i64 0)))])
 (.seq
 (.seq
 (rR [0,4,5,7,17] [
 qM 12 0,qA 13 4 4,qA 14 4 5,oQ 15 (.aG 4 [(.t 13),(.t 14)]),oQ 16 (cF 40 [(.t 12),(.t 15)]),oQ 17 (.un .not (.t 16))])
 (.cond (.t 17)
 (.seq
 (rR [6,7,8] [
 oQ 6 (.mov (.c (.sl .full []))),oQ 7 (.mov (.c (.sl .full []))),oQ 8 (.mov (.c (.int .i64 2)))])
 .ret)
 .skip))
 (.seq
 (.seq
 (rR [0,6,7,8] [
 qM 19 0,qA 20 4 4,qA 21 4 5,oQ 22 (cF 41 [(.t 19),(.t 20),(.t 21)]),qM 18 22,oQ 23 (.ext 0 (.t 18)),oQ 24 (.ext 1 (.t 18)),qM 6 23,qM 8 24])
 (.seq
 (rR [0,6,7,8,26] [
 qM 25 8,oQ 26 (.bin .neq (.t 25) (.c (.int .i64 0)))])
 (.cond (.t 26)
 (.seq
 (rR [6,7,8] [
 qM 27 8,oQ 6 (.mov (.c (.sl .full []))),oQ 7 (.mov (.c (.sl .full []))),qM 8 27])
 .ret)
 .skip)))
 (.seq
 (rR [0,6,7,9] [
 oQ 9 (.mov (.c (.int .i64 0)))])
 (.seq
 (.seq
 (rR [0,6,7,9,28,29,30] [
 qM 28 6,oQ 29 (.len false (.t 28)),oQ 30 (.mov (.c (.int .i64 0)))])
 (.block 0
 (.loop
 (.seq
 (rR [0,6,7,9,28,29,30,31] [
 oQ 31 (.bin .lss (.t 30) (.t 29))])
 (.seq
 (.cond (.t 31)
 .skip
 (.exit 0))
 (.seq
 (.block 1
 (.seq
 (rR [0,6,7,9,11,28,29,30] [
 qI 32 5 28 30,qA 33 5 32,oQ 11 (.box (.c (.agg [(.int .i64 0),(.int .i64 0),(.int .i64 0),(.str ⟨⟨[]⟩⟩),(.sl .full [])]))),oN (.store 5 (.t 11) (.t 33))])
 (.seq
 (.block 2
 (.loop
 (.seq
 (.seq
 (.reg true [0,6,7,9,11,28,29,30,47] [
 oQ 34 (.take 9),oQ 35 (.take 0),oQ 36 (.len false (.t 35)),oQ 37 (.bin .lss (.t 34) (.t 36)),oQ 38 (.take 37),oG 39 38 true (.take 0),oG 40 38 true (.take 9),oG 41 38 true (.idx 5 (.t 39) (.t 40)),oG 42 38 true (.aT 0 (.t 41)),oG 43 38 true (.load false 1 (.t 42)),oG 44 38 true (.aT 0 (.t 11)),oG 45 38 true (.load false 1 (.t 44)),oG 46 38 true (.bin .lss (.t 43) (.t 45)),oQ 47 (.pick (.t 38) (.t 46) (.c (.bool false)))])
 (.cond (.t 47)
 .skip
 (.exit 2)))
 (.block 3
 (rR [0,6,7,9,11,28,29,30] [
 qM 48 9,oQ 49 (.bin .add (.t 48) (.c (.int .i64 1))),qM 9 49])))))
 (.seq
 (.reg true [0,6,7,9,11,28,29,30,63] [
 oQ 50 (.take 9),oQ 51 (.take 0),oQ 52 (.len false (.t 51)),oQ 53 (.bin .eql (.t 50) (.t 52)),oQ 54 (.take 53),oG 55 54 false (.take 0),oG 56 54 false (.take 9),oG 57 54 false (.idx 5 (.t 55) (.t 56)),oG 58 54 false (.aT 0 (.t 57)),oG 59 54 false (.load false 1 (.t 58)),oG 60 54 false (.aT 0 (.t 11)),oG 61 54 false (.load false 1 (.t 60)),oG 62 54 false (.bin .neq (.t 59) (.t 61)),oQ 63 (.pick (.t 54) (.c (.bool true)) (.t 62))])
 (.cond (.t 63)
 (rR [0,6,7,9,28,29,30] [
 qM 64 7,qF 65 0 11,qL 66 65,oQ 67 (.aG 1 [(.t 66)]),oQ 68 (.append 1 (.t 64) (.t 67)),qM 7 68])
 .skip)))))
 (rR [0,6,7,9,28,29,30] [
 oQ 69 (.bin .add (.t 30) (.c (.int .i64 1))),qM 30 69])))))))
 (.seq
 (rR [6,7,8] [
 qM 70 6,qM 71 7,qM 6 70,qM 7 71,oQ 8 (.mov (.c (.int .i64 0)))])
 .ret))))))
theorem jS (hn:vals.length≤72) (h:SP Tryz.prog true vals bs wc [.slot 6,.slot 7,.slot 8] Q):AM.Sem Tryz.prog 14 vals bs Q:=
 oZ (keeps:=[(0,[0,4,5,7]),(1,[0,4,5,7,17]),(2,[6,7,8]),(3,[0,6,7,8]),(4,[0,6,7,8,26]),(5,[6,7,8]),(6,[0,6,7,9]),(7,[0,6,7,9,28,29,30]),(8,[0,6,7,9,28,29,30,31]),(9,[0,6,7,9,11,28,29,30]),(10,[0,6,7,9,11,28,29,30,47]),(11,[0,6,7,9,11,28,29,30]),(12,[0,6,7,9,11,28,29,30,63]),(13,[0,6,7,9,28,29,30]),(14,[0,6,7,9,28,29,30]),(15,[6,7,8])]) (solo:=[]) Tryz.func14 rfl hn h
def sI:RC:=
 (.seq
 (rR [0,4,5] [
 oQ 4 (.box (.t 1)),oQ 5 (.box (.t 2)),oQ 6 (.mov (.c (.sl .full []))),oQ 7 (.mov (.c (.sl .full []))),oQ 8 (.mov (.c (.int .i64 0)))])
 (.seq
 (.seq
 (rR [0,4,5,15] [
 qM 10 0,qA 11 4 4,qA 12 4 5,oQ 13 (.aG 4 [(.t 11),(.t 12)]),oQ 14 (cF 40 [(.t 10),(.t 13)]),oQ 15 (.un .not (.t 14))])
 (.cond (.t 15)
 (.seq
 (rR [6,7,8] [
 oQ 6 (.mov (.c (.sl .full []))),oQ 7 (.mov (.c (.sl .full []))),oQ 8 (.mov (.c (.int .i64 2)))])
 .ret)
 .skip))
 (.seq
 (rR [0,4,8,9] [
 qM 17 0,qA 18 4 5,oQ 19 (cF 47 [(.t 17),(.t 18)]),oQ 20 (cF 49 [(.t 19)]),qM 16 20,oQ 21 (.ext 0 (.t 16)),oQ 22 (.ext 1 (.t 16)),qM 9 21,qM 8 22])
 (.seq
 (.seq
 (rR [0,4,8,9,24] [
 qM 23 8,oQ 24 (.bin .neq (.t 23) (.c (.int .i64 0)))])
 (.cond (.t 24)
 (.seq
 (rR [6,7,8] [
 qM 25 8,oQ 6 (.mov (.c (.sl .full []))),oQ 7 (.mov (.c (.sl .full []))),qM 8 25])
 .ret)
 .skip))
 (.seq
 (.reg true [6,7,8] [
 oQ 26 (.take 0),qA 27 4 4,oQ 28 (.take 9),oQ 29 (cF 50 [(.t 28)]),oQ 30 (cF 14 [(.t 26),(.t 27),(.t 29)]),oQ 31 (.ext 0 (.t 30)),oQ 32 (.ext 1 (.t 30)),oQ 33 (.ext 2 (.t 30)),oQ 6 (.take 31),oQ 7 (.take 32),oQ 8 (.take 33)])
 .ret)))))
theorem sM (hn:vals.length≤34) (h:SP Tryz.prog true vals bs sI [.slot 6,.slot 7,.slot 8] Q):AM.Sem Tryz.prog 20 vals bs Q:=
 oZ (keeps:=[(0,[0,4,5]),(1,[0,4,5,15]),(2,[6,7,8]),(3,[0,4,8,9]),(4,[0,4,8,9,24]),(5,[6,7,8]),(6,[6,7,8])]) (solo:=[]) Tryz.func20 rfl hn h
def tH:RC:=
 (.seq
 (rR [0,4,5] [
 oQ 4 (.box (.t 1)),oQ 5 (.box (.t 2)),oQ 6 (.mov (.c (.int .i64 0)))])
 (.seq
 (.seq
 (rR [0,4,5,14] [
 qM 9 0,qA 10 4 4,qA 11 4 5,oQ 12 (.aG 4 [(.t 10),(.t 11)]),oQ 13 (cF 40 [(.t 9),(.t 12)]),oQ 14 (.un .not (.t 13))])
 (.cond (.t 14)
 (.seq
 (rR [6] [
 oQ 6 (.mov (.c (.int .i64 0)))])
 .ret)
 .skip))
 (.seq
 (.seq
 (.reg true [0,4,5,21] [
 qM 15 0,qA 16 4 4,oQ 17 (cF 47 [(.t 15),(.t 16)]),qM 18 0,qA 19 4 5,oQ 20 (cF 47 [(.t 18),(.t 19)]),oQ 21 (cF 46 [(.t 17),(.t 20)])])
 (.cond (.t 21)
 (.seq
 (rR [6] [
 oQ 6 (.mov (.c (.int .i64 1)))])
 .ret)
 .skip))
 (.seq
 (.seq
 (rR [8] [
 qM 23 0,qA 24 4 4,qA 25 4 5,oQ 26 (cF 41 [(.t 23),(.t 24),(.t 25)]),qM 22 26,oQ 27 (.ext 0 (.t 22)),oQ 28 (.ext 1 (.t 22)),qM 7 27,qM 8 28])
 (.seq
 (rR [30] [
 qM 29 8,oQ 30 (.bin .eql (.t 29) (.c (.int .i64 13)))])
 (.cond (.t 30)
 (.seq
 (rR [6] [
 oQ 6 (.mov (.c (.int .i64 2)))])
 .ret)
 .skip)))
 (.seq
 (rR [6] [
 oQ 6 (.mov (.c (.int .i64 0)))])
 .ret)))))
theorem er (hn:vals.length≤31) (h:SP Tryz.prog true vals bs tH [.slot 6] Q):AM.Sem Tryz.prog 18 vals bs Q:=
 oZ (keeps:=[(0,[0,4,5]),(1,[0,4,5,14]),(2,[6]),(3,[0,4,5,21]),(4,[6]),(5,[8]),(6,[30]),(7,[6]),(8,[6])]) (solo:=[]) Tryz.func18 rfl hn h
def jj:RC:=
 (.seq
 (rR [0,4,5] [
 oQ 4 (.box (.t 1)),oQ 5 (.box (.t 2))])
 (.mult [] [
 (0,qM 6 0),(0,qM 7 0),(0,qM 8 0),(0,qK 9 8),(0,qF 10 0 9),(0,qL 11 10),(0,qA 12 4 4),(0,oQ 13 (.aG 4 [(.t 12)])),(0,qM 15 0),(0,qK 16 15),(0,qF 17 1 16),(0,qL 18 17),(0,qA 19 4 5),(0,oQ 20 (.aG 4 [(.t 19)])),(2,oQ 14 (.eff (.mG 4) [(.t 11),(.t 13)])),(2,oQ 21 (.eff (.mG 4) [(.t 18),(.t 20)])),(0,qK 22 6),(0,qF 23 0 22),(0,oN (.store 1 (.t 23) (.t 14))),(0,qK 24 7),(0,qF 25 1 24),(0,oN (.store 1 (.t 25) (.t 21)))]))
theorem dw (hn:vals.length≤26) (h:SP Tryz.prog true vals bs jj [] Q):AM.Sem Tryz.prog 80 vals bs Q:=
 oZ (keeps:=[(0,[0,4,5]),(1,[]),(1000000,[14,21]),(2000001,[0,1,2,3,4,5,6,7,9,10,11,12,13,14,8,15,16,17,18,19,20,21]),(3000001,[0,0,0,0,0,0,0,0,2,0,0,0,0,0,0,2,0,0,0,0,0,0])]) (solo:=[]) Tryz.func80 rfl hn h
def j9:RC:=
 (.seq
 (rR [0,4,5] [
 oQ 4 (.box (.t 1)),oQ 5 (.box (.t 2)),oQ 6 (.mov (.c (.sl .full []))),oQ 7 (.mov (.c (.int .i64 0)))])
 (.seq
 (.reg true [0,8,9] [
 qA 11 4 4,oQ 12 (.aG 4 [(.t 11)]),qA 13 4 5,oQ 14 (.aG 4 [(.t 13)]),oQ 8 (.take 12),oQ 9 (.take 14)])
 (.seq
 (.seq
 (rR [0,8,9,10] [
 oQ 10 (.mov (.c (.int .i64 0)))])
 (.block 0
 (.loop
 (.seq
 (.seq
 (rR [0,8,9,10,18] [
 qM 15 10,qM 16 0,oQ 17 (.len false (.t 16)),oQ 18 (.bin .lss (.t 15) (.t 17))])
 (.cond (.t 18)
 .skip
 (.exit 0)))
 (.seq
 (.block 1
 (.seq
 (rR [0,8,9,10] [
 qM 21 8,qM 22 0,qM 23 10,qI 24 5 22 23,qF 25 0 24,qL 26 25,oQ 27 (.build [(.int .i64 0),(.int .i64 0),(.str ⟨⟨[]⟩⟩),(.sl .full [])] [(0,1,(.c (.int .i64 1))),(1,1,(.t 26))]),oQ 28 (.aG 4 [(.t 27)]),oQ 29 (.append 4 (.t 21) (.t 28)),qM 8 29])
 (rR [0,8,9,10] [
 qM 30 9,qM 31 0,qM 32 10,qI 33 5 31 32,qF 34 1 33,qA 35 4 34,oQ 36 (.aG 4 [(.t 35)]),oQ 37 (.append 4 (.t 30) (.t 36)),qM 9 37])))
 (rR [0,8,9,10] [
 qM 19 10,oQ 20 (.bin .add (.t 19) (.c (.int .i64 1))),qM 10 20]))))))
 (.seq
 (rR [6,7] [
 qM 38 8,qM 39 9,oQ 40 (cF 83 [(.t 38),(.t 39)]),oQ 41 (.ext 0 (.t 40)),oQ 42 (.ext 1 (.t 40)),qM 6 41,qM 7 42])
 .ret))))
theorem kF (hn:vals.length≤43) (h:SP Tryz.prog true vals bs j9 [.slot 6,.slot 7] Q):AM.Sem Tryz.prog 43 vals bs Q:=
 oZ (keeps:=[(0,[0,4,5]),(1,[0,8,9]),(2,[0,8,9,10]),(3,[0,8,9,10,18]),(5,[0,8,9,10]),(6,[0,8,9,10]),(4,[0,8,9,10]),(7,[6,7])]) (solo:=[]) Tryz.func43 rfl hn h
def jm:RC:=
 (.seq
 (rR [0,1] [
 oQ 4 (.mov (.c (.sl .full [])))])
 (.seq
 (rR [0,1,5] [
 oQ 5 (.mov (.c (.sl .full [])))])
 (.seq
 (.seq
 (rR [0,1,5,6] [
 oQ 6 (.mov (.c (.int .i64 0)))])
 (.block 0
 (.loop
 (.seq
 (.seq
 (rR [0,1,5,6,12] [
 qM 9 6,qM 10 1,oQ 11 (.len false (.t 10)),oQ 12 (.bin .lss (.t 9) (.t 11))])
 (.cond (.t 12)
 .skip
 (.exit 0)))
 (.seq
 (.block 1
 (.seq
 (rR [0,1,5,6,8] [
 qM 16 0,qM 17 1,qM 18 6,qI 19 5 17 18,qF 20 0 19,qL 21 20,oQ 22 (cF 84 [(.t 16),(.t 21)]),qM 15 22,oQ 23 (.ext 0 (.t 15)),oQ 24 (.ext 1 (.t 15)),oQ 7 (.box (.c (.agg [(.int .i64 0),(.int .i64 0),(.str ⟨⟨[]⟩⟩),(.sl .full [])]))),oN (.store 4 (.t 7) (.t 23)),qM 8 24])
 (.seq
 (rR [0,1,5,6,26] [
 qM 25 8,oQ 26 (.un .not (.t 25))])
 (.cond (.t 26)
 (rR [0,1,5,6] [
 qM 27 5,qM 28 1,qM 29 6,qI 30 5 28 29,qF 31 0 30,qL 32 31,oQ 33 (.aG 1 [(.t 32)]),oQ 34 (.append 1 (.t 27) (.t 33)),qM 5 34])
 .skip))))
 (rR [0,1,5,6] [
 qM 13 6,oQ 14 (.bin .add (.t 13) (.c (.int .i64 1))),qM 6 14]))))))
 (.seq
 (rR [4] [
 qM 35 5,qM 4 35])
 .ret))))
theorem jF (hn:vals.length≤36) (h:SP Tryz.prog true vals bs jm [.slot 4] Q):AM.Sem Tryz.prog 44 vals bs Q:=
 oZ (keeps:=[(0,[0,1]),(1,[0,1,5]),(2,[0,1,5,6]),(3,[0,1,5,6,12]),(5,[0,1,5,6,8]),(6,[0,1,5,6,26]),(7,[0,1,5,6]),(4,[0,1,5,6]),(8,[4])]) (solo:=[]) Tryz.func44 rfl hn h
def jl:RC:=
 (.seq
 (rR [0,4,5] [
 oQ 4 (.box (.t 1)),oQ 5 (.box (.t 2)),oQ 6 (.mov (.c (.bool false)))])
 (.seq
 (rR [6] [
 qM 7 0,oQ 8 (cF 29 [(.t 7)]),qM 9 8,oG 10 9 true (.load true 4 (.t 4)),oG 11 9 true (cF 71 [(.t 10)]),oQ 12 (.pick (.t 9) (.t 11) (.c (.bool false))),qM 13 12,oG 14 13 true (.load true 4 (.t 5)),oG 15 13 true (cF 71 [(.t 14)]),oQ 16 (.pick (.t 13) (.t 15) (.c (.bool false))),qM 6 16])
 .ret))
theorem jE (hn:vals.length≤17) (h:SP Tryz.prog true vals bs jl [.slot 6] Q):AM.Sem Tryz.prog 42 vals bs Q:=
 oZ (keeps:=[(0,[0,4,5]),(1,[6])]) (solo:=[]) Tryz.func42 rfl hn h
def ke:RC:=
 (.seq
 (rR [0,4,5] [
 oQ 4 (.box (.t 1)),oQ 5 (.box (.t 2)),oQ 6 (.mov (.c (.sl .full []))),oQ 7 (.mov (.c (.sl .full []))),oQ 8 (.mov (.c (.int .i64 0)))])
 (.seq
 (.seq
 (rR [0,4,5,15] [
 qM 11 0,qA 12 4 4,qA 13 4 5,oQ 14 (cF 42 [(.t 11),(.t 12),(.t 13)]),oQ 15 (.un .not (.t 14))])
 (.cond (.t 15)
 (.seq
 (rR [6,7,8] [
 oQ 6 (.mov (.c (.sl .full []))),oQ 7 (.mov (.c (.sl .full []))),oQ 8 (.mov (.c (.int .i64 2)))])
 .ret)
 .skip))
 (.seq
 (rR [0,9,10] [
 qM 17 0,qA 18 4 4,qA 19 4 5,oQ 20 (cF 43 [(.t 17),(.t 18),(.t 19)]),qM 16 20,oQ 21 (.ext 0 (.t 16)),oQ 22 (.ext 1 (.t 16)),qM 9 21,qM 10 22])
 (.seq
 (.seq
 (rR [0,9,10,24] [
 qM 23 10,oQ 24 (.bin .neq (.t 23) (.c (.int .i64 0)))])
 (.cond (.t 24)
 (.seq
 (rR [6,7,8] [
 qM 25 10,oQ 6 (.mov (.c (.sl .full []))),oQ 7 (.mov (.c (.sl .full []))),qM 8 25])
 .ret)
 .skip))
 (.seq
 (rR [6,7,8] [
 qM 26 9,qM 27 0,qM 28 9,oQ 29 (cF 44 [(.t 27),(.t 28)]),qM 6 26,qM 7 29,oQ 8 (.mov (.c (.int .i64 0)))])
 .ret)))))
theorem b9 (hn:vals.length≤30) (h:SP Tryz.prog true vals bs ke [.slot 6,.slot 7,.slot 8] Q):AM.Sem Tryz.prog 15 vals bs Q:=
 oZ (keeps:=[(0,[0,4,5]),(1,[0,4,5,15]),(2,[6,7,8]),(3,[0,9,10]),(4,[0,9,10,24]),(5,[6,7,8]),(6,[6,7,8])]) (solo:=[]) Tryz.func15 rfl hn h
def jn:RC:=
 (.seq
 (rR [0,4,5] [
 oQ 4 (.box (.t 1)),oQ 5 (.box (.t 2)),oQ 6 (.mov (.c (.int .i64 0)))])
 (.seq
 (.seq
 (rR [0,4,5,13] [
 qM 9 0,qA 10 4 4,qA 11 4 5,oQ 12 (cF 42 [(.t 9),(.t 10),(.t 11)]),oQ 13 (.un .not (.t 12))])
 (.cond (.t 13)
 (.seq
 (rR [6] [
 oQ 6 (.mov (.c (.int .i64 0)))])
 .ret)
 .skip))
 (.seq
 (.seq
 (.reg true [0,4,5,20] [
 qM 14 0,qA 15 4 4,oQ 16 (cF 48 [(.t 14),(.t 15)]),qM 17 0,qA 18 4 5,oQ 19 (cF 48 [(.t 17),(.t 18)]),oQ 20 (cF 45 [(.t 16),(.t 19)])])
 (.cond (.t 20)
 (.seq
 (rR [6] [
 oQ 6 (.mov (.c (.int .i64 1)))])
 .ret)
 .skip))
 (.seq
 (.seq
 (rR [8] [
 qM 22 0,qA 23 4 4,qA 24 4 5,oQ 25 (cF 43 [(.t 22),(.t 23),(.t 24)]),qM 21 25,oQ 26 (.ext 0 (.t 21)),oQ 27 (.ext 1 (.t 21)),qM 7 26,qM 8 27])
 (.seq
 (rR [29] [
 qM 28 8,oQ 29 (.bin .eql (.t 28) (.c (.int .i64 13)))])
 (.cond (.t 29)
 (.seq
 (rR [6] [
 oQ 6 (.mov (.c (.int .i64 2)))])
 .ret)
 .skip)))
 (.seq
 (rR [6] [
 oQ 6 (.mov (.c (.int .i64 0)))])
 .ret)))))
theorem bt (hn:vals.length≤30) (h:SP Tryz.prog true vals bs jn [.slot 6] Q):AM.Sem Tryz.prog 19 vals bs Q:=
 oZ (keeps:=[(0,[0,4,5]),(1,[0,4,5,13]),(2,[6]),(3,[0,4,5,20]),(4,[6]),(5,[8]),(6,[29]),(7,[6]),(8,[6])]) (solo:=[]) Tryz.func19 rfl hn h
def fq:RC:=
 (.seq
 (rR [0,4,5] [
 oQ 4 (.box (.t 1)),oQ 5 (.box (.t 2)),oQ 6 (.mov (.c (.bool false)))])
 (.seq
 (.seq
 (rR [0,4,5,25] [
 qM 13 0,oQ 14 (cF 11 [(.t 13)]),oQ 15 (.un .not (.t 14)),qM 16 15,oG 17 16 false (.load true 4 (.t 4)),oG 18 16 false (cF 12 [(.t 17)]),oG 19 16 false (.un .not (.t 18)),oQ 20 (.pick (.t 16) (.c (.bool true)) (.t 19)),qM 21 20,oG 22 21 false (.load true 4 (.t 5)),oG 23 21 false (cF 12 [(.t 22)]),oG 24 21 false (.un .not (.t 23)),oQ 25 (.pick (.t 21) (.c (.bool true)) (.t 24))])
 (.cond (.t 25)
 (.seq
 (rR [6] [
 oQ 26 (cF 13 []),qM 6 26])
 .ret)
 .skip))
 (.seq
 (rR [0,4,5,7,8,9] [
 qM 28 0,qA 29 4 4,qA 30 4 5,oQ 31 (cF 14 [(.t 28),(.t 29),(.t 30)]),qM 27 31,oQ 32 (.ext 0 (.t 27)),oQ 33 (.ext 1 (.t 27)),oQ 34 (.ext 2 (.t 27)),qM 7 32,qM 8 33,qM 9 34])
 (.seq
 (rR [0,4,5,7,8,9,10,11,12] [
 qM 36 0,qA 37 4 4,qA 38 4 5,oQ 39 (cF 15 [(.t 36),(.t 37),(.t 38)]),qM 35 39,oQ 40 (.ext 0 (.t 35)),oQ 41 (.ext 1 (.t 35)),oQ 42 (.ext 2 (.t 35)),qM 10 40,qM 11 41,qM 12 42])
 (.seq
 (.reg true [6] [
 qM 43 7,qM 44 10,oQ 45 (cF 16 [(.t 43),(.t 44)]),oQ 46 (.take 45),oG 47 46 true (.mov (.t 8)),oG 48 46 true (.mov (.t 11)),oG 49 46 true (cF 17 [(.t 47),(.t 48)]),oQ 50 (.pick (.t 46) (.t 49) (.c (.bool false))),qM 51 50,oG 52 51 true (.mov (.t 9)),oG 53 51 true (.mov (.t 12)),oG 54 51 true (.bin .eql (.t 52) (.t 53)),oQ 55 (.pick (.t 51) (.t 54) (.c (.bool false))),qM 56 55,oG 57 56 true (.mov (.t 0)),oG 58 56 true (.load true 4 (.t 4)),oG 59 56 true (.load true 4 (.t 5)),oG 60 56 true (cF 18 [(.t 57),(.t 58),(.t 59)]),oG 61 56 true (.mov (.t 0)),oG 62 56 true (.load true 4 (.t 4)),oG 63 56 true (.load true 4 (.t 5)),oG 64 56 true (cF 19 [(.t 61),(.t 62),(.t 63)]),oG 65 56 true (.bin .eql (.t 60) (.t 64)),oQ 66 (.pick (.t 56) (.t 65) (.c (.bool false))),qM 67 66,oG 68 67 true (cF 13 []),oQ 69 (.pick (.t 67) (.t 68) (.c (.bool false))),qM 6 69])
 .ret)))))
theorem aZ (hn:vals.length≤70) (h:SP Tryz.prog true vals bs fq [.slot 6] Q):AM.Sem Tryz.prog 3 vals bs Q:=
 oZ (keeps:=[(0,[0,4,5]),(1,[0,4,5,25]),(2,[6]),(3,[0,4,5,7,8,9]),(4,[0,4,5,7,8,9,10,11,12]),(5,[6])]) (solo:=[]) Tryz.func3 rfl hn h
def lD:RC:=
 (.seq
 (rR [0] [
 oQ 2 (.mov (.c (.bool false)))])
 (.seq
 (.seq
 (rR [0,6] [
 qM 4 0,oQ 5 (.len false (.t 4)),oQ 6 (.bin .gtr (.t 5) (.c (.int .i64 30)))])
 (.cond (.t 6)
 (.seq
 (rR [2] [
 oQ 2 (.mov (.c (.bool false)))])
 .ret)
 .skip))
 (.seq
 (.seq
 (rR [0,8,9] [
 qM 7 0,oQ 8 (.len false (.t 7)),oQ 9 (.mov (.c (.int .i64 0)))])
 (.block 0
 (.loop
 (.seq
 (rR [0,8,9,10] [
 oQ 10 (.bin .lss (.t 9) (.t 8))])
 (.seq
 (.cond (.t 10)
 .skip
 (.exit 0))
 (.seq
 (.block 1
 (.seq
 (rR [0,3,8,9] [
 qM 11 9,qM 3 11])
 (.seq
 (rR [0,8,9,18] [
 qM 12 0,qM 13 3,qI 14 5 12 13,qF 15 1 14,qA 16 4 15,oQ 17 (cF 12 [(.t 16)]),oQ 18 (.un .not (.t 17))])
 (.cond (.t 18)
 (.seq
 (rR [2] [
 oQ 2 (.mov (.c (.bool false)))])
 .ret)
 .skip))))
 (rR [0,8,9] [
 oQ 19 (.bin .add (.t 9) (.c (.int .i64 1))),qM 9 19])))))))
 (.seq
 (rR [2] [
 oQ 2 (.mov (.c (.bool true)))])
 .ret))))
theorem ep (hn:vals.length≤20) (h:SP Tryz.prog true vals bs lD [.slot 2] Q):AM.Sem Tryz.prog 11 vals bs Q:=
 oZ (keeps:=[(0,[0]),(1,[0,6]),(2,[2]),(3,[0,8,9]),(4,[0,8,9,10]),(5,[0,3,8,9]),(6,[0,8,9,18]),(7,[2]),(8,[0,8,9]),(9,[2])]) (solo:=[]) Tryz.func11 rfl hn h
def jB:RC:=
 (.seq
 (rR [] [
 oQ 0 (.mov (.c (.bool false)))])
 (.seq
 (rR [1] [
 oQ 12 (cF 39 [(.c (.int .i64 1))]),oQ 13 (.aG 4 [(.t 12)]),oQ 14 (.build [(.int .i64 0),(.int .i64 0),(.str ⟨⟨[]⟩⟩),(.sl .full [])] [(0,1,(.c (.int .i64 2))),(2,1,(.c (.str ⟨⟨[102]⟩⟩))),(3,1,(.t 13))]),oQ 1 (.box (.c (.agg [(.int .i64 0),(.int .i64 0),(.str ⟨⟨[]⟩⟩),(.sl .full [])]))),oN (.store 4 (.t 1) (.t 14))])
 (.seq
 (rR [1,2] [
 qA 15 4 1,oQ 16 (.build [(.int .i64 0),(.int .i64 0),(.int .i64 0),(.str ⟨⟨[]⟩⟩),(.sl .full [])] [(0,1,(.c (.int .i64 2))),(1,4,(.t 15))]),oQ 17 (.aG 5 [(.t 16)]),qM 2 17])
 (.seq
 (rR [1,2,3,4,5] [
 qM 19 2,oQ 20 (cF 39 [(.c (.int .i64 2))]),oQ 21 (cF 39 [(.c (.int .i64 0))]),oQ 22 (cF 14 [(.t 19),(.t 20),(.t 21)]),qM 18 22,oQ 23 (.ext 0 (.t 18)),oQ 24 (.ext 1 (.t 18)),oQ 25 (.ext 2 (.t 18)),qM 3 23,qM 4 24,qM 5 25])
 (.seq
 (rR [1,2,3,4,5,6,7,8] [
 oQ 27 (.build [(.int .i64 0),(.int .i64 0),(.str ⟨⟨[]⟩⟩),(.sl .full [])] [(1,1,(.c (.int .i64 2)))]),oQ 28 (.build [(.int .i64 0),(.int .i64 0),(.int .i64 0),(.str ⟨⟨[]⟩⟩),(.sl .full [])] [(0,1,(.c (.int .i64 0))),(1,4,(.t 27))]),oQ 29 (.aG 5 [(.t 28)]),oQ 30 (cF 39 [(.c (.int .i64 1))]),oQ 31 (cF 39 [(.c (.int .i64 0))]),oQ 32 (.build [(.int .i64 0),(.int .i64 0),(.str ⟨⟨[]⟩⟩),(.sl .full [])] [(1,1,(.c (.int .i64 1)))]),oQ 33 (.aG 4 [(.t 31),(.t 32)]),oQ 34 (.build [(.int .i64 0),(.int .i64 0),(.str ⟨⟨[]⟩⟩),(.sl .full [])] [(0,1,(.c (.int .i64 2))),(2,1,(.c (.str ⟨⟨[43]⟩⟩))),(3,1,(.t 33))]),oQ 35 (cF 20 [(.t 29),(.t 30),(.t 34)]),qM 26 35,oQ 36 (.ext 0 (.t 26)),oQ 37 (.ext 1 (.t 26)),oQ 38 (.ext 2 (.t 26)),qM 6 36,qM 7 37,qM 8 38])
 (.seq
 (.reg true [1,2,3,4,5,6,7,8,11] [
 oQ 40 (cF 39 [(.c (.int .i64 1))]),qA 41 4 1,oQ 42 (cF 14 [(.c (.sl .full [])),(.t 40),(.t 41)]),oQ 39 (.take 42),oQ 43 (.ext 0 (.t 39)),oQ 44 (.ext 1 (.t 39)),oQ 45 (.ext 2 (.t 39)),oQ 9 (.take 43),oQ 10 (.take 44),oQ 11 (.take 45)])
 (.seq
 (.reg true [0] [
 oQ 46 (.take 3),qA 47 4 1,oQ 48 (.build [(.int .i64 0),(.int .i64 0),(.int .i64 0),(.str ⟨⟨[]⟩⟩),(.sl .full [])] [(0,1,(.c (.int .i64 0))),(1,4,(.t 47))]),qA 49 4 1,oQ 50 (.build [(.int .i64 0),(.int .i64 0),(.int .i64 0),(.str ⟨⟨[]⟩⟩),(.sl .full [])] [(0,1,(.c (.int .i64 2))),(1,4,(.t 49))]),oQ 51 (.aG 5 [(.t 48),(.t 50)]),oQ 52 (cF 16 [(.t 46),(.t 51)]),oQ 53 (.take 52),oG 54 53 true (.take 4),oG 55 53 true (.aG 1 [(.c (.int .i64 0))]),oG 56 53 true (cF 17 [(.t 54),(.t 55)]),oQ 57 (.pick (.t 53) (.t 56) (.c (.bool false))),oQ 58 (.take 57),oG 59 58 true (.take 5),oG 60 58 true (.bin .eql (.t 59) (.c (.int .i64 0))),oQ 61 (.pick (.t 58) (.t 60) (.c (.bool false))),oQ 62 (.take 61),oG 63 62 true (.take 6),oG 64 62 true (.len false (.t 63)),oG 65 62 true (.bin .eql (.t 64) (.c (.int .i64 2))),oQ 66 (.pick (.t 62) (.t 65) (.c (.bool false))),oQ 67 (.take 66),oG 68 67 true (.take 6),oG 69 67 true (.idx 5 (.t 68) (.c (.int .i64 1))),oG 70 67 true (.aT 1 (.t 69)),oG 71 67 true (.aT 1 (.t 70)),oG 72 67 true (.load false 1 (.t 71)),oG 73 67 true (.bin .eql (.t 72) (.c (.int .i64 3))),oQ 74 (.pick (.t 67) (.t 73) (.c (.bool false))),oQ 75 (.take 74),oG 76 75 true (.take 7),oG 77 75 true (.aG 1 [(.c (.int .i64 1))]),oG 78 75 true (cF 17 [(.t 76),(.t 77)]),oQ 79 (.pick (.t 75) (.t 78) (.c (.bool false))),oQ 80 (.take 79),oG 81 80 true (.take 8),oG 82 80 true (.bin .eql (.t 81) (.c (.int .i64 0))),oQ 83 (.pick (.t 80) (.t 82) (.c (.bool false))),oQ 84 (.take 83),oG 85 84 true (.take 11),oG 86 84 true (.bin .eql (.t 85) (.c (.int .i64 13))),oQ 87 (.pick (.t 84) (.t 86) (.c (.bool false))),oQ 88 (.take 87),oG 89 88 true (.take 2),oG 90 88 true (cF 39 [(.c (.int .i64 2))]),oG 91 88 true (.load true 4 (.t 1)),oG 92 88 true (cF 18 [(.t 89),(.t 90),(.t 91)]),oG 93 88 true (.bin .eql (.t 92) (.c (.int .i64 1))),oQ 94 (.pick (.t 88) (.t 93) (.c (.bool false))),oQ 95 (.take 94),oG 96 95 true (.take 2),oG 97 95 true (cF 39 [(.c (.int .i64 2))]),oG 98 95 true (cF 39 [(.c (.int .i64 1))]),oG 99 95 true (cF 18 [(.t 96),(.t 97),(.t 98)]),oG 100 95 true (.bin .eql (.t 99) (.c (.int .i64 2))),oQ 101 (.pick (.t 95) (.t 100) (.c (.bool false))),oQ 102 (.take 101),oG 103 102 true (.take 2),oG 104 102 true (cF 39 [(.c (.int .i64 2))]),oG 105 102 true (cF 39 [(.c (.int .i64 0))]),oG 106 102 true (cF 18 [(.t 103),(.t 104),(.t 105)]),oG 107 102 true (.bin .eql (.t 106) (.c (.int .i64 0))),oQ 108 (.pick (.t 102) (.t 107) (.c (.bool false))),oQ 0 (.take 108)])
 .ret)))))))
theorem jQ (hn:vals.length≤109) (h:SP Tryz.prog true vals bs jB [.slot 0] Q):AM.Sem Tryz.prog 13 vals bs Q:=
 oZ (keeps:=[(0,[]),(1,[1]),(2,[1,2]),(3,[1,2,3,4,5]),(4,[1,2,3,4,5,6,7,8]),(5,[1,2,3,4,5,6,7,8,11]),(6,[0])]) (solo:=[]) Tryz.func13 rfl hn h
def mU:RC:=
 (.seq
 (rR [0,2] [
 oQ 2 (.box (.c (.agg [(.int .i64 0),(.int .i64 0),(.str ⟨⟨[]⟩⟩),(.sl .full [])])))])
 (.seq
 (rR [2] [
 qM 3 0,oQ 4 (.build [(.int .i64 0),(.int .i64 0),(.str ⟨⟨[]⟩⟩),(.sl .full [])] [(0,1,(.c (.int .i64 1))),(1,1,(.t 3))]),oN (.store 4 (.t 2) (.t 4))])
 .ret))
theorem mZ (hn:vals.length≤5) (h:SP Tryz.prog true vals bs mU [.cell 2 true 4] Q):AM.Sem Tryz.prog 39 vals bs Q:=
 oZ (keeps:=[(0,[0,2]),(1,[2])]) (solo:=[]) Tryz.func39 rfl hn h
end Go.CK
namespace Go.CK
open Go.AM
def a8 (b:List Bnd):List Tm:=b.map fun x=>az x.v
def aH (b:List Bnd):List Tm:=b.map fun x=>x.t
def bk (b:List Bnd) (s t:Tm):Bool:=cL b&&(s.right&&t.right)
def yb (b:List Bnd) (s t:Tm) (σ:Int->Tm):Prop:=(∀x∈b,σ x.v=app σ x.t)∧app σ s=app σ t
theorem G4 (b:List Bnd):(a8 b).zip (aH b)=b.map fun x=>(az x.v,x.t):=by
 unfold a8 aH
 induction b with
 |nil=>rfl
 |cons x b ih=>simp only [List.map_cons,List.zip_cons_cons,ih]
theorem G5 {b:List Bnd} {σ:Int->Tm}:Eqs (b.map fun x=>(az x.v,x.t)) σ↔∀x∈b,σ x.v=app σ x.t:=by
 unfold Eqs;constructor
 ·intro h x hx;have:=h _ (List.mem_map_of_mem hx)
  rwa [qt] at this
 ·intro h p hp;obtain ⟨x,hx,rfl⟩:=List.mem_map.1 hp;rw [qt];exact h x hx
theorem CA (b:List Bnd):(a8 b).length=(aH b).length:=by unfold a8 aH;rw [List.length_map,List.length_map]
theorem Hv {b:List Bnd} {s t:Tm} {σ:Int->Tm}:Eqs ((a8 b++[s]).zip (aH b++[t])) σ↔yb b s t σ:=by
 rw [List.zip_append (CA b),G4];unfold yb;rw [←G5];constructor
 ·intro h;exact ⟨fun p hp=>h p (List.mem_append_left _ hp),h (s,t) (List.mem_append_right _ (by simp))⟩
 ·rintro ⟨h1,h2⟩ p hp;rcases List.mem_append.1 hp with hp|hp
  ·exact h1 p hp
  ·simp at hp;subst hp;exact h2
theorem Fc {b:List Bnd} {s t:Tm} {σ:Int->Tm}:Eqs ((s::a8 b).zip (t::aH b)) σ↔yb b s t σ:=by
 rw [List.zip_cons_cons,G4];unfold yb;rw [←G5];constructor
 ·intro h;exact ⟨fun p hp=>h p (List.mem_cons_of_mem _ hp),h (s,t) (List.mem_cons_self ..)⟩
 ·rintro ⟨h1,h2⟩ p hp;rcases List.mem_cons.1 hp with rfl|hp
  ·exact h2
  ·exact h1 p hp
theorem AE {b:List Bnd} (h:cL b=true):(a8 b).all Tm.right=true∧(aH b).all Tm.right=true:=by
 unfold cL at h;rw [Bool.and_eq_true] at h;have hr:=BD h.1
 have hv:∀{b:List Bnd} {p:Option Int},mF p b=true->∀x∈b,0≤x.v∧x.v≤1048576:=by
  intro b
  induction b with
  |nil=>intro p _ x hx;cases hx
  |cons y b ih=>
   intro p hp x hx;rw [mF] at hp;simp only [Bool.and_eq_true,decide_eq_true_eq] at hp;rcases List.mem_cons.1 hx with rfl|hx
   ·exact hp.1
   ·exact ih hp.2.2.2 x hx
 refine ⟨List.all_eq_true.2 fun t ht=>?_,List.all_eq_true.2 fun t ht=>?_⟩
 ·obtain ⟨x,hx,rfl⟩:=List.mem_map.1 ht;exact Gs (El (hv h.1 x hx)) ⟨by simp [az,Tm.sz],by simp [az,Tm.dep]⟩
 ·obtain ⟨x,hx,rfl⟩:=List.mem_map.1 ht;exact hr x hx
theorem Ep {b:List Bnd} {s t:Tm} (hv:bk b s t=true) (hN:Tm.ai (a8 b++[s])+Tm.ai (aH b++[t])≤300000000):∃out e,wH fN fF (a8 b++[s]) (aH b++[t])=some (out,e)∧BL (s::a8 b) (t::aH b)=some (out,e)∧Ans (yb b s t) out e∧Rng out:=by
 unfold bk at hv;simp only [Bool.and_eq_true] at hv;obtain ⟨hl,hr⟩:=AE hv.1
 have hsn:∀(l:List Tm) (x:Tm),Tm.ai (l++[x])=Tm.ai (x::l):=fun l x=>by
  induction l with
  |nil=>rfl
  |cons y l ih=>simp only [List.cons_append,Tm.ai] at ih⊢;omega
 obtain ⟨out,e,h1,h2,h2'⟩:=HT hN;obtain ⟨out',e',h3,h4⟩:=HS (a:=s::a8 b) (b:=t::aH b) (by rw [←hsn,←hsn];exact hN)
 rw [if_pos (by simp [hl,hr,hv.2.1,hv.2.2]),if_pos (by simp [CA])] at h2
 rw [if_pos (by simp [hl,hr,hv.2.1,hv.2.2]),if_pos (by simp [CA])] at h4
 have q1:=h2.congr fun σ=>Hv;have q2:=h4.congr fun σ=>Fc;obtain ⟨e1,e2⟩:=q1.one q2;subst e1;subst e2;exact ⟨out,e,h1,h3,q1,h2'⟩
def c8 (b c:List Bnd):List Int:=(c.filter fun x=>(aX b x.v).isNone).map (·.v)
def mD:List Bnd->List Bnd->List Int
 |_,[]=>[]
 |bs,x::c=>match bs.dropWhile fun y=>decide (y.v<x.v) with
  |[]=>x.v::mD [] c
  |y::bs'=>if y.v=x.v then mD (y::bs') c else x.v::mD (y::bs') c
theorem n3 {b:List Bnd} {v:Int}:(aX b v).isNone=true↔∀x∈b,x.v≠v:=by
 induction b with
 |nil=>simp [aX]
 |cons y b ih=>
  rw [aX];split
  ·rename_i h;simp only [Option.isNone_some,Bool.false_eq_true,false_iff];intro hx;exact hx y (List.mem_cons_self ..) h
  ·rename_i h;rw [ih]
   exact ⟨fun hx z hz=>by
    rcases List.mem_cons.1 hz with rfl|hz
    ·exact h
    ·exact hx z hz,fun hx z hz=>hx z (List.mem_cons_of_mem _ hz)⟩
theorem sr (v:Int):∀bs:List Bnd,∃pre,bs=pre++bs.dropWhile (fun y=>decide (y.v<v))∧∀x∈pre,x.v<v
 |[]=>⟨[],rfl,fun x hx=>by cases hx⟩
 |y::bs=>by
  rw [List.dropWhile_cons];split
  ·rename_i h;obtain ⟨pre,e,h2⟩:=sr v bs;refine ⟨y::pre,by rw [List.cons_append,←e],fun x hx=>?_⟩
   rcases List.mem_cons.1 hx with rfl|hx
   ·exact of_decide_eq_true h
   ·exact h2 x hx
  ·exact ⟨[],rfl,fun x hx=>by cases hx⟩
theorem uY {v:Int} {y:Bnd}:∀{bs bs':List Bnd},bs.dropWhile (fun y=>decide (y.v<v))=y::bs'->¬y.v<v
 |z::bs,bs',h=>by
  rw [List.dropWhile_cons] at h;split at h
  ·exact uY h
  ·rename_i hz;cases h
   simpa using hz
 |[],bs',h=>by cases h
theorem vm {b:List Bnd}:∀(c pre bs:List Bnd),b=pre++bs->(b.map (·.v)).Pairwise (·<·)->(c.map (·.v)).Pairwise (·<·)->(∀x∈pre,∀y∈c,x.v<y.v)->mD bs c=c8 b c
 |[],pre,bs,_,_,_,_=>rfl
 |x::c,pre,bs,hb,ha,hc,hp=>by
  rw [List.map_cons,List.pairwise_cons] at hc;obtain ⟨p2,e,h2⟩:=sr x.v bs;have hc2:∀y∈c,x.v<y.v:=fun y hy=>hc.1 _ (List.mem_map_of_mem hy)
  have hpre2:∀z∈pre++p2,z.v<x.v:=fun z hz=>by
   rcases List.mem_append.1 hz with hz|hz
   ·exact hp z hz x (List.mem_cons_self ..)
   ·exact h2 z hz
  have hnext:∀z∈pre++p2,∀y∈c,z.v<y.v:=fun z hz y hy=>by
   have:=hpre2 z hz;have:=hc2 y hy;omega
  have hfr:c8 b (x::c)=if (aX b x.v).isNone then x.v::c8 b c else c8 b c:=by
   unfold c8;rw [List.filter_cons];split<;>rfl
  rw [mD,hfr];generalize hd:bs.dropWhile (fun y=>decide (y.v<x.v))=d at e
  cases d with
  |nil=>
   have hb2:b=(pre++p2)++[]:=by rw [hb,e,List.append_assoc]
   rw [if_pos (n3.2 fun z hz=>by
    rw [hb2,List.append_nil] at hz;have:=hpre2 z hz;omega)]
   show x.v::mD [] c=_
   rw [vm c (pre++p2) [] hb2 ha hc.2 hnext]
  |cons y d=>
   have hb2:b=(pre++p2)++y::d:=by rw [hb,e,List.append_assoc]
   have hy:=uY hd;show (if y.v=x.v then mD (y::d) c else x.v::mD (y::d) c)=_;have ih:=vm c (pre++p2) (y::d) hb2 ha hc.2 hnext
   by_cases hyx:y.v=x.v
   ·rw [if_pos hyx,if_neg,ih];rw [n3];intro h;exact h y (by rw [hb2];simp) hyx
   ·rw [if_neg hyx,if_pos (n3.2 fun z hz=>?_),ih];rw [hb2] at hz;rcases List.mem_append.1 hz with hz|hz
    ·have:=hpre2 z hz;omega
    ·rw [hb2,List.map_append,List.pairwise_append] at ha;rcases List.mem_cons.1 hz with rfl|hz
     ·exact hyx
     ·have h3:=ha.2.1;rw [List.map_cons,List.pairwise_cons] at h3;have:=h3.1 _ (List.mem_map_of_mem hz);omega
end Go.CK
namespace Go.CK
open Go.AM
theorem BC:∀{l:List Int} {lo hi:Int},l.Pairwise (·<·)->(∀x∈l,lo≤x∧x≤hi)->lo≤hi+1->(l.length:Int)≤hi+1-lo
 |[],lo,hi,_,_,h=>by simp only [List.length_nil];omega
 |x::l,lo,hi,ha,hb,h=>by
  rw [List.pairwise_cons] at ha;have h1:=hb x (List.mem_cons_self ..);have:=BC (l:=l) (lo:=x+1) (hi:=hi) ha.2 (fun y hy=>⟨by have:=ha.1 y hy;omega,(hb y (List.mem_cons_of_mem _ hy)).2⟩) (by omega)
  simp only [List.length_cons];omega
theorem kO {n:Nat}:∀{l:List Tm},(∀x∈l,x.nodes≤n)->Tm.ai l≤n*l.length
 |[],_=>Nat.zero_le _
 |x::l,h=>by
  have h1:=h x (List.mem_cons_self ..);have h2:=kO (l:=l) fun y hy=>h y (List.mem_cons_of_mem _ hy);simp only [Tm.ai,List.length_cons,Nat.mul_succ];omega
theorem BX {c:List Bnd} (ha:(c.map (·.v)).Pairwise (·<·)) (hr:Rng c) (hf:∀x∈c,fits x.t):Tm.ai (a8 c)+Tm.ai (aH c)≤220000000∧c.length≤1048577:=by
 have hl:=BC (lo:=0) (hi:=1048576) ha (fun v hv=>by
  obtain ⟨x,hx,rfl⟩:=List.mem_map.1 hv;exact ⟨(hr x hx).1,(hr x hx).2.1⟩) (by omega)
 rw [List.length_map] at hl
 have h1:Tm.ai (a8 c)≤1*(a8 c).length:=kO fun t ht=>by
  obtain ⟨x,hx,rfl⟩:=List.mem_map.1 ht;simp [az,Tm.nodes,Tm.ai]
 have h2:Tm.ai (aH c)≤200*(aH c).length:=kO fun t ht=>by
  obtain ⟨x,hx,rfl⟩:=List.mem_map.1 ht;exact Nat.le_trans (uJ x.t (hr x hx).2.2) (hf x hx).1
 have e1:(a8 c).length=c.length:=List.length_map ..;have e2:(aH c).length=c.length:=List.length_map ..;rw [e1] at h1;rw [e2] at h2;omega
end Go.CK
