/-
  Texts of this aQ joined (wip/gen/bundle.py),those declarations only that are needed:RcUni. By an AI agent.
-/
import Derived.Test.YtahnpgfkkngimaaGreatBav
set_option linter.unusedSimpArgs false
set_option linter.unusedVariables false
namespace Go.CK
open Go.AM Go.Proofs
variable{vals:List AV}{bs:List Box}{Q:AV->List Box->Prop}
def pM:RC:=
 (.seq (rR [] [oQ 0 (.mov (.c .sP))]) (.seq (rR [0] [oQ 1 (.eff .mkM []),oQ 2 (.eff .mkM []),oQ 3 (.eff .mkM []),oQ 4 (.eff .mkM []),oQ 5 (.build [(.sl .full []),.nmp,(.sl .full []),.nmp,.nmp,.nmp] [(1,1,(.t 1)),(3,1,(.t 2)),(4,1,(.t 3)),(5,1,(.t 4))]),oQ 6 (.box (.t 5)),qM 0 6]) .ret))
theorem pW(hn:vals.length<=7)(h:SP Tryz.prog true vals bs pM [.slot 0] Q):AM.Sem Tryz.prog 112 vals bs Q:=
 oZ (keeps:=[(0,[]),(1,[0])]) (solo:=[]) Tryz.func112 rfl hn h
def tB:RC:=
 (.seq (rR [0] [oQ 2 (.mov (.c (.bool false)))]) (.seq (rR [2] [qM 3 0,oQ 4 (cF 142 [(.t 3),(.c (.fn (.func 143) [] []))]),oQ 5 (.un .not (.t 4)),qM 2 5]) .ret))
theorem tO(hn:vals.length<=6)(h:SP Tryz.prog true vals bs tB [.slot 2] Q):AM.Sem Tryz.prog 111 vals bs Q:=
 oZ (keeps:=[(0,[0]),(1,[2])]) (solo:=[]) Tryz.func111 rfl hn h
def Np:RC:=
 (.seq (rR [2,3] [oQ 2 (.box (.t 0)),oQ 3 (.box (.t 1)),oQ 4 (.mov (.c (.sl .full []))),oQ 5 (.mov (.c (.int .i64 0)))]) (.seq (rR [4,5] [qA 6 4 2,oQ 7 (.aG 4 [(.t 6)]),qA 8 4 3,oQ 9 (.aG 4 [(.t 8)]),oQ 10 (cF 82 [(.t 7),(.t 9)]),oQ 11 (.ext 0 (.t 10)),oQ 12 (.ext 1 (.t 10)),qM 4 11,qM 5 12]) .ret))
theorem Nt(hn:vals.length<=13)(h:SP Tryz.prog true vals bs Np [.slot 4,.slot 5] Q):AM.Sem Tryz.prog 98 vals bs Q:=
 oZ (keeps:=[(0,[2,3]),(1,[4,5])]) (solo:=[]) Tryz.func98 rfl hn h
def MV:RC:=
 (.seq (rR [2,3] [oQ 2 (.box (.t 0)),oQ 3 (.box (.t 1)),oQ 4 (.mov (.c (.bool false)))]) (.seq (rR [6] [qA 8 4 2,qA 9 4 3,oQ 10 (cF 98 [(.t 8),(.t 9)]),qM 7 10,oQ 11 (.ext 0 (.t 7)),oQ 12 (.ext 1 (.t 7)),qM 5 11,qM 6 12]) (.seq (rR [4] [qM 13 6,oQ 14 (.bin .eql (.t 13) (.c (.int .i64 0))),qM 15 14,oG 16 15 false (.mov (.t 6)),oG 17 15 false (.bin .eql (.t 16) (.c (.int .i64 6))),oQ 18 (.pick (.t 15) (.c (.bool true)) (.t 17)),qM 4 18]) .ret)))
theorem MX(hn:vals.length<=19)(h:SP Tryz.prog true vals bs MV [.slot 4] Q):AM.Sem Tryz.prog 60 vals bs Q:=
 oZ (keeps:=[(0,[2,3]),(1,[6]),(2,[4])]) (solo:=[]) Tryz.func60 rfl hn h
def yy:RC:=
 (.seq (rR [0,1] [oQ 4 (.mov (.c (.sl .full []))),oQ 5 (.mov (.c (.int .i64 0)))]) (.seq (.block 0 (.seq (rR [0,1,8] [qM 9 0,oQ 10 (cF 111 [(.t 9)]),oQ 11 (.un .not (.t 10)),qM 12 11,oG 13 12 false (.mov (.t 1)),oG 14 12 false (cF 111 [(.t 13)]),oG 15 12 false (.un .not (.t 14)),oQ 16 (.pick (.t 12) (.c (.bool true)) (.t 15)),qM 8 16]) (.cond (.t 8) (.seq (rR [4,5] [oQ 4 (.mov (.c (.sl .full []))),oQ 5 (.mov (.c (.int .i64 2)))]) .ret) (.seq (rR [0,1,17] [qM 18 0,oQ 19 (.len false (.t 18)),qM 20 1,oQ 21 (.len false (.t 20)),oQ 22 (.bin .neq (.t 19) (.t 21)),qM 17 22]) (.cond (.t 17) (.seq (rR [4,5] [oQ 4 (.mov (.c (.sl .full []))),oQ 5 (.mov (.c (.int .i64 9)))]) .ret) .skip))))) (.seq (rR [0,1,6] [oQ 23 (cF 112 []),qM 6 23]) (.seq (.seq (rR [0,1,6,25,26] [qM 24 0,oQ 25 (.len false (.t 24)),oQ 26 (.mov (.c (.int .i64 0)))]) (.block 1 (.loop (.seq (rR [0,1,6,25,26,27] [
 oQ 27 (.bin .lss (.t 26) (.t 25))]) (.seq (.cond (.t 27) .skip (.exit 1)) (.seq (.block 2 (.seq (rR [0,1,6,7,25,26] [qM 28 26,qM 7 28]) (.seq (.mult [0,1,6,25,26,45] [(0,qM 29 6),(0,qM 30 6),(0,qM 31 0),(0,qM 32 7),(0,qI 33 4 31 32),(0,qA 34 4 33),(0,qM 36 6),(0,qM 37 1),(0,qM 38 7),(0,qI 39 4 37 38),(0,qA 40 4 39),(2,oQ 35 (cF 114 [(.t 30),(.t 34)])),(2,oQ 41 (cF 114 [(.t 36),(.t 40)])),(0,oQ 42 (.build [(.int .i64 0),(.int .i64 0)] [(0,1,(.t 35)),(1,1,(.t 41))])),(2,oQ 43 (.eff (.bsR 2) [(.t 42)])),(1,oQ 44 (cF 113 [(.t 29),(.t 43)])),(0,oQ 45 (.un .not (.t 44)))]) (.cond (.t 45) (.seq (rR [4,5] [oQ 4 (.mov (.c (.sl .full []))),oQ 5 (.mov (.c (.int .i64 13)))]) .ret) .skip)))) (rR [0,1,6,25,26] [oQ 46 (.bin .add (.t 26) (.c (.int .i64 1))),qM 26 46]))))))) (.seq (rR [4,5] [qM 47 6,oQ 48 (cF 115 [(.t 47)]),oQ 49 (.ext 0 (.t 48)),oQ 50 (.ext 1 (.t 48)),qM 4 49,qM 5 50])
 .ret)))))
theorem fW(hn:vals.length<=51)(h:SP Tryz.prog true vals bs yy [.slot 4,.slot 5] Q):AM.Sem Tryz.prog 82 vals bs Q:=
 oZ (keeps:=[(0,[0,1]),(1,[0,1,8]),(3,[0,1,17]),(4,[4,5]),(2,[4,5]),(5,[0,1,6]),(6,[0,1,6,25,26]),(7,[0,1,6,25,26,27]),(8,[0,1,6,7,25,26]),(9,[0,1,6,25,26,45]),(10,[4,5]),(11,[0,1,6,25,26]),(12,[4,5]),(1000000,[43]),(2000009,[0,1,2,3,4,5,7,8,9,10,11,6,12,13,14,15,16]),(3000009,[0,0,0,0,0,0,2,0,0,0,0,0,2,0,2,1,0])]) (solo:=[]) Tryz.func82 rfl hn h
def qG:RC:=
 (.seq (rR [1] [oQ 1 (.box (.t 0)),oQ 2 (.mov (.c (.bool false)))]) (.seq (rR [2] [qA 3 4 1,oQ 4 (cF 78 [(.t 3)]),oQ 5 (.un .not (.t 4)),qM 2 5]) .ret))
theorem qT(hn:vals.length<=6)(h:SP Tryz.prog true vals bs qG [.slot 2] Q):AM.Sem Tryz.prog 143 vals bs Q:=
 oZ (keeps:=[(0,[1]),(1,[2])]) (solo:=[]) Tryz.func143 rfl hn h
def mm:RC:=
 (.seq (rR [0,1] [oQ 4 (.mov (.c (.int .i64 0)))]) (.seq (.block 0 (.loop (.seq (.seq (rR [0,1,13] [qM 5 0,qK 6 5,qF 7 2 6,qL 8 7,qM 9 1,qI 10 1 8 9,qL 11 10,qM 12 1,oQ 13 (.bin .neq (.t 11) (.t 12))]) (.cond (.t 13) .skip (.exit 0))) (.block 1 (.seq (.mult [0,1] [(0,qM 14 0),(0,qK 15 14),(0,qF 16 2 15),(0,qL 17 16),(0,qM 18 1),(0,qM 19 0),(0,qK 20 19),(0,qF 21 2 20),(0,qL 22 21),(0,qM 23 0),(0,qK 24 23),(0,qF 25 2 24),(0,qL 26 25),(0,qM 27 1),(0,qI 28 1 26 27),(0,qL 29 28),(0,qI 30 1 22 29),(0,qL 31 30),(0,qI 32 1 17 18),(1,oN (.store 1 (.t 32) (.t 31)))]) (rR [0,1] [qM 33 0,qK 34 33,qF 35 2 34,qL 36 35,qM 37 1,qI 38 1 36 37,qL 39 38,qM 1 39])))))) (.seq (rR [4] [qM 40 1,qM 4 40]) .ret)))
theorem mv(hn:vals.length<=41)(h:SP Tryz.prog true vals bs mm [.slot 4] Q):AM.Sem Tryz.prog 144 vals bs Q:=
 oZ (keeps:=[(0,[0,1]),(1,[0,1,13]),(2,[0,1]),(3,[0,1]),(4,[4]),(2000002,[0,1,2,3,4,5,6,7,8,9,10,11,12,13,14,15,16,17,18,19]),(3000002,[0,0,0,0,0,0,0,0,0,0,0,0,0,0,0,0,0,0,0,1])]) (solo:=[]) Tryz.func144 rfl hn h
def mn:RC:=
 (.seq (rR [0,1] [oQ 4 (.mov (.c (.bool false)))]) (.seq (.block 0 (.loop (.seq (.seq (rR [0,1,16] [qM 14 1,oQ 15 (.len false (.t 14)),oQ 16 (.bin .gtr (.t 15) (.c (.int .i64 0)))]) (.cond (.t 16) .skip (.exit 0))) (.block 1 (.seq (rR [0,1,5] [qM 17 1,oQ 18 (.len false (.t 17)),oQ 19 (.bin .sub (.t 18) (.c (.int .i64 1))),qM 5 19]) (.seq (.mult [0,1,5,6,7] [(0,qM 20 0),(0,qM 21 1),(0,qM 22 5),(0,qI 23 2 21 22),(0,oQ 24 (.ql 2 1 (.t 23) (.c (.int .i64 0)))),(0,qL 25 24),(0,qM 27 0),(0,qM 28 1),(0,qM 29 5),(0,qI 30 2 28 29),(0,oQ 31 (.ql 2 1 (.t 30) (.c (.int .i64 1)))),(0,qL 32 31),(2,oQ 26 (cF 144 [(.t 20),(.t 25)])),(1,oQ 33 (cF 144 [(.t 27),(.t 32)])),(0,oQ 6 (.take 26)),(0,oQ 7 (.take 33))]) (.seq (rR [0,1,6,7] [qM 34 1,qM 35 5,oQ 36 (.slc 2 (.t 34) none (some (.t 35)) none),qM 1 36]) (.seq (.seq (rR [0,1,6,7,39] [qM 37 6,qM 38 7,oQ 39 (.bin .eql (.t 37) (.t 38))])
 (.cond (.t 39) (.exit 1) .skip)) (.seq (rR [0,1,6,7,8,9] [qM 41 0,qK 42 41,qF 43 3 42,qL 44 43,qM 45 6,oQ 46 (.eff (.getM true (.int .i64 0)) [(.t 44),(.t 45)]),qM 40 46,oQ 47 (.ext 0 (.t 40)),oQ 48 (.ext 1 (.t 40)),qM 8 47,qM 9 48]) (.seq (rR [0,1,6,7,8,9,10,11] [qM 50 0,qK 51 50,qF 52 3 51,qL 53 52,qM 54 7,oQ 55 (.eff (.getM true (.int .i64 0)) [(.t 53),(.t 54)]),qM 49 55,oQ 56 (.ext 0 (.t 49)),oQ 57 (.ext 1 (.t 49)),qM 10 56,qM 11 57]) (.seq (.seq (rR [0,1,6,7,8,10,61] [qM 58 9,qM 59 58,oG 60 59 true (.mov (.t 11)),oQ 61 (.pick (.t 59) (.t 60) (.c (.bool false)))]) (.cond (.t 61) (.seq (.seq (rR [0,1,6,7,8,10,66] [qM 62 0,qM 63 8,qM 64 10,oQ 65 (cF 145 [(.t 62),(.t 63),(.t 64)]),oQ 66 (.un .not (.t 65))]) (.cond (.t 66) (.seq (rR [4] [oQ 4 (.mov (.c (.bool false)))]) .ret) .skip)) (.seq (rR [0,1,6,7,10,74,75,76] [qM 67 0,qK 68 67,qF 69 0 68,oQ 70 (.lod 1 false 1 (.t 69)),qM 71 8,qI 72 5 70 71,qF 73 4 72,qL 74 73,oQ 75 (.len false (.t 74)),oQ 76 (.mov (.c (.int .i64 0)))])
 (.block 2 (.loop (.seq (rR [0,1,6,7,10,74,75,76,77] [oQ 77 (.bin .lss (.t 76) (.t 75))]) (.seq (.cond (.t 77) .skip (.exit 2)) (.seq (.block 3 (.seq (rR [0,1,6,7,10,12,13,74,75,76] [qM 78 76,qI 79 1 74 76,qL 80 79,qM 12 78,qM 13 80]) (rR [0,1,6,7,10,74,75,76] [qM 81 1,qM 82 13,qM 83 0,qK 84 83,qF 85 0 84,oQ 86 (.lod 1 false 1 (.t 85)),qM 87 10,qI 88 5 86 87,qF 89 4 88,qL 90 89,qM 91 12,qI 92 1 90 91,qL 93 92,oQ 94 (.build [(.int .i64 0),(.int .i64 0)] [(0,1,(.t 82)),(1,1,(.t 93))]),oQ 95 (.aG 2 [(.t 94)]),oQ 96 (.eff (.mG 2) [(.t 81),(.t 95)]),qM 1 96]))) (rR [0,1,6,7,10,74,75,76] [oQ 97 (.bin .add (.t 76) (.c (.int .i64 1))),qM 76 97])))))))) .skip)) (rR [0,1] [qM 98 0,qM 99 6,qM 100 7,oQ 101 (cF 146 [(.t 98),(.t 99),(.t 100)])])))))))))))) (.seq (rR [4] [oQ 4 (.mov (.c (.bool true)))]) .ret)))
theorem mw(hn:vals.length<=102)(h:SP Tryz.prog true vals bs mn [.slot 4] Q):AM.Sem Tryz.prog 113 vals bs Q:=
 oZ (keeps:=[(0,[0,1]),(1,[0,1,16]),(2,[0,1,5]),(3,[0,1,5,6,7]),(4,[0,1,6,7]),(5,[0,1,6,7,39]),(6,[0,1,6,7,8,9]),(7,[0,1,6,7,8,9,10,11]),(8,[0,1,6,7,8,10,61]),(9,[0,1,6,7,8,10,66]),(10,[4]),(11,[0,1,6,7,10,74,75,76]),(12,[0,1,6,7,10,74,75,76,77]),(13,[0,1,6,7,10,12,13,74,75,76]),(14,[0,1,6,7,10,74,75,76]),(15,[0,1,6,7,10,74,75,76]),(16,[0,1]),(17,[4]),(1000000,[96,8070,8086]),(2000003,[0,1,2,3,4,5,7,8,9,10,11,12,6,13,14,15]),(3000003,[0,0,0,0,0,0,2,0,0,0,0,0,0,1,0,0])]) (solo:=[]) Tryz.func113 rfl hn h
def mR:RC:=
 (.seq (rR [0,3] [oQ 3 (.box (.t 1)),oQ 4 (.mov (.c (.int .i64 0)))]) (.seq (.seq (rR [0,3,13] [qF 11 0 3,qL 12 11,oQ 13 (.bin .eql (.t 12) (.c (.int .i64 1)))]) (.cond (.t 13) (.seq (.solo 6 [0,3,5,6] [qM 15 0,qK 16 15,qF 17 1 16,qL 18 17,qF 19 1 3,qL 20 19,oQ 21 (.eff (.getM true (.int .i64 0)) [(.t 18),(.t 20)]),qM 14 21,oQ 22 (.ext 0 (.t 14)),oQ 23 (.ext 1 (.t 14)),qM 5 22,qM 6 23]) (.seq (rR [0,3,5,24] [qM 24 6]) (.cond (.t 24) (.seq (rR [4] [qM 25 5,qM 4 25]) .ret) .skip))) .skip)) (.seq (rR [0,3,7] [qA 26 4 3,oQ 27 (.build [(.int .i64 0),(.int .i64 0),(.str ⟨⟨[]⟩⟩),(.sl .full []),(.sl .full [])] [(0,4,(.t 26))]),oQ 7 (.box (.c (.agg [(.int .i64 0),(.int .i64 0),(.str ⟨⟨[]⟩⟩),(.sl .full []),(.sl .full [])]))),oN (.store 5 (.t 7) (.t 27))]) (.seq (.seq (rR [0,3,7,29,30,31] [qF 28 3 3,qL 29 28,oQ 30 (.len false (.t 29)),oQ 31 (.mov (.c (.int .i64 0)))])
 (.block 0 (.loop (.seq (rR [0,3,7,29,30,31,32] [oQ 32 (.bin .lss (.t 31) (.t 30))]) (.seq (.cond (.t 32) .skip (.exit 0)) (.seq (.block 1 (.seq (rR [0,3,7,9,29,30,31] [qI 33 4 29 31,qA 34 4 33,oQ 9 (.box (.c (.agg [(.int .i64 0),(.int .i64 0),(.str ⟨⟨[]⟩⟩),(.sl .full [])]))),oN (.store 4 (.t 9) (.t 34))]) (.mult [0,3,7,29,30,31] [(0,qF 35 4 7),(0,qL 36 35),(0,qM 37 0),(0,qA 38 4 9),(2,oQ 39 (cF 114 [(.t 37),(.t 38)])),(0,oQ 40 (.aG 1 [(.t 39)])),(1,oQ 41 (.eff (.mG 1) [(.t 36),(.t 40)])),(0,qF 42 4 7),(1,oN (.store 1 (.t 42) (.t 41)))]))) (rR [0,3,7,29,30,31] [oQ 43 (.bin .add (.t 31) (.c (.int .i64 1))),qM 31 43]))))))) (.seq (rR [0,3,7,10] [qM 44 0,qK 45 44,qF 46 0 45,oQ 47 (.lod 1 false 1 (.t 46)),oQ 48 (.len false (.t 47)),qM 10 48]) (.seq (.mult [0,3,10] [(0,qM 49 0),(0,qM 50 0),(0,qK 51 50),(0,qF 52 0 51),(0,qA 54 5 7),(0,oQ 55 (.aG 5 [(.t 54)])),(2,qL 53 52),(0,oQ 56 (.append 5 (.t 53) (.t 55))),(0,qK 57 49),(0,qF 58 0 57),(1,oN (.store 1 (.t 58) (.t 56)))])
 (.seq (rR [0,3,10] [qM 59 0,qM 60 0,qK 61 60,qF 62 2 61,qL 63 62,qM 64 10,oQ 65 (.aG 1 [(.t 64)]),oQ 66 (.eff (.mG 1) [(.t 63),(.t 65)]),qK 67 59,qF 68 2 67,oN (.store 1 (.t 68) (.t 66))]) (.seq (.seq (rR [0,3,10,71] [qF 69 0 3,qL 70 69,oQ 71 (.bin .eql (.t 70) (.c (.int .i64 1)))]) (.cond (.t 71) (.mult [10] [(0,qM 72 0),(0,qK 73 72),(0,qF 74 1 73),(0,qL 75 74),(0,qF 76 1 3),(0,qL 77 76),(0,qM 78 0),(0,qK 79 78),(0,qF 80 4 79),(0,qL 81 80),(0,qM 82 10),(0,qM 83 10),(0,qF 84 1 3),(0,qL 85 84),(2,oQ 86 (.eff (.Hy (.int .i64 0)) [(.t 75),(.t 77)])),(0,oQ 87 (.ext 1 (.t 86))),(2,oN (.eff .F4 [(.t 75),(.t 87),(.t 83)])),(2,oQ 88 (.eff (.Hy (.int .i64 0)) [(.t 81),(.t 82)])),(0,oQ 89 (.ext 1 (.t 88))),(1,oN (.eff .F4 [(.t 81),(.t 89),(.t 85)]))]) (rR [10] [qM 90 0,qK 91 90,qF 92 3 91,qL 93 92,qM 94 10,qM 95 10,oN (.eff .vV [(.t 93),(.t 94),(.t 95)])])))
 (.seq (rR [4] [qM 96 10,qM 4 96]) .ret)))))))))
theorem mX(hn:vals.length<=97)(h:SP Tryz.prog true vals bs mR [.slot 4] Q):AM.Sem Tryz.prog 114 vals bs Q:=
 oZ (keeps:=[(0,[0,3]),(1,[0,3,13]),(2,[0,3,5,6]),(3,[0,3,5,24]),(4,[4]),(5,[0,3,7]),(6,[0,3,7,29,30,31]),(7,[0,3,7,29,30,31,32]),(8,[0,3,7,9,29,30,31]),(9,[0,3,7,29,30,31]),(10,[0,3,7,29,30,31]),(11,[0,3,7,10]),(12,[0,3,10]),(13,[0,3,10]),(14,[0,3,10,71]),(16,[10]),(15,[10]),(17,[4]),(1000000,[41,66,8047]),(2000009,[0,1,2,3,4,5,6,7,8]),(3000009,[0,0,0,0,2,0,1,0,1]),(2000012,[0,1,2,3,5,6,4,7,8,9,10]),(3000012,[0,0,0,0,2,0,0,0,0,0,1]),(2000015,[0,1,2,3,4,5,6,7,8,9,10,11,12,13,14,15,16,17,18,19]),(3000015,[0,0,0,0,0,0,0,0,0,0,0,0,0,0,2,0,2,2,0,1])]) (solo:=[(2,6)]) Tryz.func114 rfl hn h
def lz:RC:=
 (.seq (rR [0,1,2] [oQ 6 (.mov (.c (.bool false)))]) (.seq (.both [7,8] [(0,qM 9 0),(0,qK 10 9),(0,qF 11 0 10),(0,qL 12 11),(0,qM 13 1),(0,qI 14 5 12 13),(0,qF 15 0 14),(0,qA 16 4 15),(0,qM 17 0),(0,qK 18 17),(0,qF 19 0 18),(0,oQ 20 (.lod 1 false 1 (.t 19))),(0,qM 21 2),(0,qI 22 5 20 21),(0,qF 23 0 22),(0,oQ 24 (.more (.lde true 4) [(.t 23)]))] [(0,oQ 7 (.box (.c (.agg [(.int .i64 0),(.int .i64 0),(.str ⟨⟨[]⟩⟩),(.sl .full [])])))),(0,oQ 8 (.box (.c (.agg [(.int .i64 0),(.int .i64 0),(.str ⟨⟨[]⟩⟩),(.sl .full [])])))),(0,oN (.stn 1 4 (.t 7) (.t 16))),(0,oN (.store 4 (.t 8) (.t 24)))] [(0,oQ 8 (.box (.c (.agg [(.int .i64 0),(.int .i64 0),(.str ⟨⟨[]⟩⟩),(.sl .full [])])))),(0,oQ 7 (.box (.c (.agg [(.int .i64 0),(.int .i64 0),(.str ⟨⟨[]⟩⟩),(.sl .full [])])))),(0,oN (.stn 1 4 (.t 7) (.t 16))),(0,oN (.store 4 (.t 8) (.t 24)))]) (.seq
 (rR [6] [qF 25 0 7,qL 26 25,qF 27 0 8,qL 28 27,oQ 29 (.bin .eql (.t 26) (.t 28)),qM 30 29,oG 31 30 true (.aT 1 (.t 7)),oG 32 30 true (.load false 1 (.t 31)),oG 33 30 true (.aT 1 (.t 8)),oG 34 30 true (.load false 1 (.t 33)),oG 35 30 true (.bin .eql (.t 32) (.t 34)),oQ 36 (.pick (.t 30) (.t 35) (.c (.bool false))),qM 37 36,oG 38 37 true (.aT 2 (.t 7)),oG 39 37 true (.load false 1 (.t 38)),oG 40 37 true (.aT 2 (.t 8)),oG 41 37 true (.load false 1 (.t 40)),oG 42 37 true (.bin .eql (.t 39) (.t 41)),oQ 43 (.pick (.t 37) (.t 42) (.c (.bool false))),qM 44 43,oG 45 44 true (.aT 3 (.t 7)),oG 46 44 true (.load false 1 (.t 45)),oG 47 44 true (.len false (.t 46)),oG 48 44 true (.aT 3 (.t 8)),oG 49 44 true (.load false 1 (.t 48)),oG 50 44 true (.len false (.t 49)),oG 51 44 true (.bin .eql (.t 47) (.t 50)),oQ 52 (.pick (.t 44) (.t 51) (.c (.bool false))),qM 6 52])
 .ret)))
theorem lI(hn:vals.length<=53)(h:SP Tryz.prog true vals bs lz [.slot 6] Q):AM.Sem Tryz.prog 145 vals bs Q:=
 oZ (keeps:=[(0,[0,1,2]),(1,[7,8]),(2,[6]),(1000000,[9007,8020,24]),(4000001,[16,17,0,1,2,3,4,5,6,7,8,9,10,11,12,13,14,15]),(5000001,[17,18,19]),(6000001,[16,18,19])]) (solo:=[]) Tryz.func145 rfl hn h
def ly:RC:=
 (.seq (rR [0,1,2] [qM 14 0,qK 15 14,qF 16 2 15,qL 17 16,qM 18 2,qM 19 1,qI 20 1 17 18,oN (.store 1 (.t 20) (.t 19))]) (.seq (.seq (rR [0,1,2,6,7] [qM 22 0,qK 23 22,qF 24 3 23,qL 25 24,qM 26 2,oQ 27 (.eff (.getM true (.int .i64 0)) [(.t 25),(.t 26)]),qM 21 27,oQ 28 (.ext 0 (.t 21)),oQ 29 (.ext 1 (.t 21)),qM 6 28,qM 7 29]) (.seq (rR [0,1,2,6,30] [qM 30 7]) (.cond (.t 30) (.seq (rR [0,1,2,6,9] [qM 32 0,qK 33 32,qF 34 3 33,qL 35 34,qM 36 1,oQ 37 (.eff (.getM true (.int .i64 0)) [(.t 35),(.t 36)]),qM 31 37,oQ 38 (.ext 0 (.t 31)),oQ 39 (.ext 1 (.t 31)),qM 8 38,qM 9 39]) (.seq (rR [0,1,2,6,41] [qM 40 9,oQ 41 (.un .not (.t 40))]) (.cond (.t 41) (rR [0,1,2] [qM 42 0,qK 43 42,qF 44 3 43,qL 45 44,qM 46 1,qM 47 6,oN (.eff .vV [(.t 45),(.t 46),(.t 47)])]) .skip))) .skip))) (.seq (rR [0,1,10,11] [qM 49 0,qK 50 49,qF 51 4 50,qL 52 51,qM 53 2,oQ 54 (.eff (.getM true (.int .i64 0)) [(.t 52),(.t 53)]),qM 48 54,oQ 55 (.ext 0 (.t 48)),oQ 56 (.ext 1 (.t 48)),qM 10 55,qM 11 56])
 (.seq (rR [0,1,10,57] [qM 57 11]) (.cond (.t 57) (.seq (rR [0,1,10,12,13] [qM 59 0,qK 60 59,qF 61 4 60,qL 62 61,qM 63 1,oQ 64 (.eff (.getM true (.int .i64 0)) [(.t 62),(.t 63)]),qM 58 64,oQ 65 (.ext 0 (.t 58)),oQ 66 (.ext 1 (.t 58)),qM 12 65,qM 13 66]) (.seq (rR [0,1,10,73] [qM 67 13,oQ 68 (.un .not (.t 67)),qM 69 68,oG 70 69 false (.mov (.t 10)),oG 71 69 false (.mov (.t 12)),oG 72 69 false (.bin .lss (.t 70) (.t 71)),oQ 73 (.pick (.t 69) (.c (.bool true)) (.t 72))]) (.cond (.t 73) (rR [] [qM 74 0,qK 75 74,qF 76 4 75,qL 77 76,qM 78 1,qM 79 10,oN (.eff .vV [(.t 77),(.t 78),(.t 79)])]) .skip))) .skip)))))
theorem lH(hn:vals.length<=80)(h:SP Tryz.prog true vals bs ly [] Q):AM.Sem Tryz.prog 146 vals bs Q:=
 oZ (keeps:=[(0,[0,1,2]),(1,[0,1,2,6,7]),(2,[0,1,2,6,30]),(3,[0,1,2,6,9]),(4,[0,1,2,6,41]),(5,[0,1,2]),(6,[0,1,10,11]),(7,[0,1,10,57]),(8,[0,1,10,12,13]),(9,[0,1,10,73]),(10,[])]) (solo:=[]) Tryz.func146 rfl hn h
def j7:RC:=
 (.seq (rR [0] [oQ 2 (.mov (.c (.sl .full []))),oQ 3 (.mov (.c (.int .i64 0)))]) (.seq (rR [0,4] [oQ 15 (.eff .mkM []),qM 4 15]) (.seq (.seq (rR [0,4,20,21] [qM 16 0,qK 17 16,qF 18 0 17,oQ 19 (.lod 1 false 1 (.t 18)),oQ 20 (.len false (.t 19)),oQ 21 (.mov (.c (.int .i64 0)))]) (.block 0 (.loop (.seq (rR [0,4,20,21,22] [oQ 22 (.bin .lss (.t 21) (.t 20))]) (.seq (.cond (.t 22) .skip (.exit 0)) (.seq (.block 1 (.seq (rR [0,4,5,20,21] [qM 23 21,qM 5 23]) (.seq (rR [0,4,7,20,21] [qM 25 0,qM 26 0,qM 27 5,oQ 28 (cF 144 [(.t 26),(.t 27)]),qM 29 4,oQ 30 (cF 147 [(.t 25),(.t 28),(.t 29)]),qM 24 30,oQ 31 (.ext 0 (.t 24)),oQ 32 (.ext 1 (.t 24)),oQ 6 (.box (.c (.agg [(.int .i64 0),(.int .i64 0)]))),oN (.store 2 (.t 6) (.t 31)),qM 7 32]) (.seq (rR [0,4,20,21,34] [qM 33 7,oQ 34 (.un .not (.t 33))]) (.cond (.t 34) (.seq (rR [2,3] [oQ 2 (.mov (.c (.sl .full []))),oQ 3 (.mov (.c (.int .i64 13)))])
 .ret) .skip))))) (rR [0,4,20,21] [oQ 35 (.bin .add (.t 21) (.c (.int .i64 1))),qM 21 35]))))))) (.seq (rR [0,8] [oQ 8 (.mov (.c (.sl .full [])))]) (.seq (.seq (rR [0,8,41,42,43] [qM 36 0,qK 37 36,qF 38 1 37,qL 39 38,oQ 40 (cF 149 [(.t 39)]),oQ 41 (cF 148 [(.t 40)]),oQ 42 (.len false (.t 41)),oQ 43 (.mov (.c (.int .i64 0)))]) (.block 2 (.loop (.seq (rR [0,8,41,42,43,44] [oQ 44 (.bin .lss (.t 43) (.t 42))]) (.seq (.cond (.t 44) .skip (.exit 2)) (.seq (.block 3 (.seq (rR [0,8,10,41,42,43] [qI 45 1 41 43,qL 46 45,qM 10 46]) (.seq (rR [0,8,10,11,41,42,43] [qM 47 0,qM 48 0,qK 49 48,qF 50 1 49,qL 51 50,qM 52 10,oQ 53 (.eff (.getM false (.int .i64 0)) [(.t 51),(.t 52)]),oQ 54 (cF 144 [(.t 47),(.t 53)]),qM 11 54]) (.seq (rR [0,8,10,11,13,41,42,43] [qM 56 0,qK 57 56,qF 58 3 57,qL 59 58,qM 60 11,oQ 61 (.eff (.getM true (.int .i64 0)) [(.t 59),(.t 60)]),qM 55 61,oQ 62 (.ext 0 (.t 55)),oQ 63 (.ext 1 (.t 55)),qM 12 62,qM 13 63])
 (.seq (.seq (rR [0,8,10,11,41,42,43,75] [qM 64 13,oQ 65 (.un .not (.t 64)),qM 66 65,oG 67 66 true (.mov (.t 0)),oG 68 66 true (.iR (.t 67)),oG 69 66 true (.aT 4 (.t 68)),oG 70 66 true (.load false 1 (.t 69)),oG 71 66 true (.mov (.t 11)),oG 72 66 true (.eff (.getM false (.int .i64 0)) [(.t 70),(.t 71)]),oG 73 66 true (.mov (.t 10)),oG 74 66 true (.bin .eql (.t 72) (.t 73)),oQ 75 (.pick (.t 66) (.t 74) (.c (.bool false)))]) (.cond (.t 75) (.exit 3) .skip)) (.seq (.seq (rR [0,8,10,11,14,41,42,43] [qM 76 0,qK 77 76,qF 78 5 77,qL 79 78,qM 80 11,oQ 81 (.eff (.getM false (.agg [(.int .i64 0),(.int .i64 0)])) [(.t 79),(.t 80)]),oQ 14 (.box (.c (.agg [(.int .i64 0),(.int .i64 0)]))),oN (.store 2 (.t 14) (.t 81))]) (.seq (rR [0,8,10,11,41,42,43,89] [qF 82 0 14,qL 83 82,oQ 84 (.bin .gtr (.t 83) (.c (.int .i64 200))),qM 85 84,oG 86 85 false (.aT 1 (.t 14)),oG 87 85 false (.load false 1 (.t 86)),oG 88 85 false (.bin .gtr (.t 87) (.c (.int .i64 20))),oQ 89 (.pick (.t 85) (.c (.bool true)) (.t 88))])
 (.cond (.t 89) (.seq (rR [2,3] [oQ 2 (.mov (.c (.sl .full []))),oQ 3 (.mov (.c (.int .i64 6)))]) .ret) .skip))) (rR [0,8,41,42,43] [qM 90 8,qM 91 10,qM 92 0,qM 93 11,oQ 94 (cF 150 [(.t 92),(.t 93)]),oQ 95 (.build [(.int .i64 0),(.int .i64 0),(.int .i64 0),(.str ⟨⟨[]⟩⟩),(.sl .full [])] [(0,1,(.t 91)),(1,4,(.t 94))]),oQ 96 (.aG 5 [(.t 95)]),oQ 97 (.append 5 (.t 90) (.t 96)),qM 8 97]))))))) (rR [0,8,41,42,43] [oQ 98 (.bin .add (.t 43) (.c (.int .i64 1))),qM 43 98]))))))) (.seq (rR [2,3] [qM 99 8,qM 2 99,oQ 3 (.mov (.c (.int .i64 0)))]) .ret))))))
theorem kC(hn:vals.length<=100)(h:SP Tryz.prog true vals bs j7 [.slot 2,.slot 3] Q):AM.Sem Tryz.prog 115 vals bs Q:=
 oZ (keeps:=[(0,[0]),(1,[0,4]),(2,[0,4,20,21]),(3,[0,4,20,21,22]),(4,[0,4,5,20,21]),(5,[0,4,7,20,21]),(6,[0,4,20,21,34]),(7,[2,3]),(8,[0,4,20,21]),(9,[0,8]),(10,[0,8,41,42,43]),(11,[0,8,41,42,43,44]),(12,[0,8,10,41,42,43]),(13,[0,8,10,11,41,42,43]),(14,[0,8,10,11,13,41,42,43]),(15,[0,8,10,11,41,42,43,75]),(16,[0,8,10,11,14,41,42,43]),(17,[0,8,10,11,41,42,43,89]),(18,[2,3]),(19,[0,8,41,42,43]),(20,[0,8,41,42,43]),(21,[2,3]),(1000000,[8019])]) (solo:=[]) Tryz.func115 rfl hn h
def j8:RC:=
 (.seq (rR [0,1,4] [oQ 4 (.box (.c (.agg [(.int .i64 0),(.int .i64 0),(.str ⟨⟨[]⟩⟩),(.sl .full [])])))]) (.seq (rR [0,1,4,5,6] [qM 12 0,qK 13 12,qF 14 3 13,qL 15 14,qM 16 1,oQ 17 (.eff (.getM true (.int .i64 0)) [(.t 15),(.t 16)]),qM 11 17,oQ 18 (.ext 0 (.t 11)),oQ 19 (.ext 1 (.t 11)),qM 5 18,qM 6 19]) (.seq (.seq (rR [0,1,4,5,21] [qM 20 6,oQ 21 (.un .not (.t 20))]) (.cond (.t 21) (.seq (rR [4] [qM 22 0,qK 23 22,qF 24 4 23,qL 25 24,qM 26 1,oQ 27 (.eff (.getM false (.int .i64 0)) [(.t 25),(.t 26)]),oQ 28 (cF 81 [(.t 27)]),oN (.store 4 (.t 4) (.t 28))]) .ret) .skip)) (.seq (rR [0,4,5,7] [qM 29 0,qK 30 29,qF 31 0 30,oQ 32 (.lod 1 false 1 (.t 31)),qM 33 5,qI 34 5 32 33,qF 35 0 34,qA 36 4 35,oQ 7 (.box (.c (.agg [(.int .i64 0),(.int .i64 0),(.str ⟨⟨[]⟩⟩),(.sl .full [])]))),oN (.store 4 (.t 7) (.t 36))]) (.seq (.seq (rR [0,4,5,7,40] [qF 37 3 7,qL 38 37,oQ 39 (.len false (.t 38)),oQ 40 (.bin .eql (.t 39) (.c (.int .i64 0)))])
 (.cond (.t 40) (.seq (rR [4] [qA 41 4 7,oN (.store 4 (.t 4) (.t 41))]) .ret) .skip)) (.seq (rR [0,4,5,7,8] [qF 42 3 7,qL 43 42,oQ 44 (.len false (.t 43)),oQ 45 (.eff (.mkB 4 (.agg [(.int .i64 0),(.int .i64 0),(.str ⟨⟨[]⟩⟩),(.sl .full [])])) [(.t 44),(.t 44)]),qM 8 45]) (.seq (.seq (rR [0,4,7,8,53,54,55] [qM 46 0,qK 47 46,qF 48 0 47,oQ 49 (.lod 1 false 1 (.t 48)),qM 50 5,qI 51 5 49 50,qF 52 4 51,qL 53 52,oQ 54 (.len false (.t 53)),oQ 55 (.mov (.c (.int .i64 0)))]) (.block 0 (.loop (.seq (rR [0,4,7,8,53,54,55,56] [oQ 56 (.bin .lss (.t 55) (.t 54))]) (.seq (.cond (.t 56) .skip (.exit 0)) (.seq (.block 1 (.seq (rR [0,4,7,8,9,10,53,54,55] [qM 57 55,qI 58 1 53 55,qL 59 58,qM 9 57,qM 10 59]) (rR [0,4,7,8,53,54,55] [qM 60 8,qM 61 9,qM 62 0,qM 63 0,qM 64 10,oQ 65 (cF 144 [(.t 63),(.t 64)]),oQ 66 (cF 150 [(.t 62),(.t 65)]),qI 67 4 60 61,oN (.store 4 (.t 67) (.t 66))])))
 (rR [0,4,7,8,53,54,55] [oQ 68 (.bin .add (.t 55) (.c (.int .i64 1))),qM 55 68]))))))) (.seq (rR [4,7] [qM 69 8,qF 70 3 7,oN (.store 1 (.t 70) (.t 69))]) (.seq (rR [4] [qA 71 4 7,oN (.store 4 (.t 4) (.t 71))]) .ret)))))))))
theorem kD(hn:vals.length<=72)(h:SP Tryz.prog true vals bs j8 [.cell 4 true 4] Q):AM.Sem Tryz.prog 150 vals bs Q:=
 oZ (keeps:=[(0,[0,1,4]),(1,[0,1,4,5,6]),(2,[0,1,4,5,21]),(3,[4]),(4,[0,4,5,7]),(5,[0,4,5,7,40]),(6,[4]),(7,[0,4,5,7,8]),(8,[0,4,7,8,53,54,55]),(9,[0,4,7,8,53,54,55,56]),(10,[0,4,7,8,9,10,53,54,55]),(11,[0,4,7,8,53,54,55]),(12,[0,4,7,8,53,54,55]),(13,[4,7]),(14,[4]),(1000000,[45,8032,8049])]) (solo:=[]) Tryz.func150 rfl hn h
def ee:RC:=
 (.seq (rR [1] [oQ 1 (.box (.t 0)),oQ 2 (.mov (.c .nfn))]) (.seq (rR [2] [oQ 3 (.ug (.func 174) [] [(.t 1)]),qM 2 3]) .ret))
theorem eo(hn:vals.length<=4)(h:SP Tryz.prog true vals bs ee [.slot 2] Q):AM.Sem Tryz.prog 149 vals bs Q:=
 oZ (keeps:=[(0,[1]),(1,[2])]) (solo:=[]) Tryz.func149 rfl hn h
def cM:RC:=
 (.seq (rR [0,1] [oQ 4 (.mov (.c (.bool false)))]) (.seq (rR [4] [qM 5 0,qM 6 1,oQ 7 (cF 171 [(.t 5),(.t 6)]),oQ 8 (.bin .geq (.t 7) (.c (.int .i64 0))),qM 4 8]) .ret))
theorem cO(hn:vals.length<=9)(h:SP Tryz.prog true vals bs cM [.slot 4] Q):AM.Sem Tryz.prog 142 vals bs Q:=
 oZ (keeps:=[(0,[0,1]),(1,[4])]) (solo:=[]) Tryz.func142 rfl hn h
def df:RC:=
 (.seq (rR [0,1] [oQ 4 (.mov (.c (.int .i64 0)))]) (.seq (.seq (rR [0,1,7,8] [qM 6 0,oQ 7 (.len false (.t 6)),oQ 8 (.mov (.c (.int .i64 0)))]) (.block 0 (.loop (.seq (rR [0,1,7,8,9] [oQ 9 (.bin .lss (.t 8) (.t 7))]) (.seq (.cond (.t 9) .skip (.exit 0)) (.seq (.block 1 (.seq (rR [0,1,5,7,8] [qM 10 8,qM 5 10]) (.seq (rR [0,1,5,7,8,16] [qM 11 1,qM 12 0,qM 13 5,qI 14 4 12 13,qA 15 4 14,oQ 16 (.dD (.t 11) [(.t 15)])]) (.cond (.t 16) (.seq (rR [4] [qM 17 5,qM 4 17]) .ret) .skip)))) (rR [0,1,7,8] [oQ 18 (.bin .add (.t 8) (.c (.int .i64 1))),qM 8 18]))))))) (.seq (rR [4] [oQ 4 (.mov (.c (.int .i64 (-1))))]) .ret)))
theorem dg(hn:vals.length<=19)(h:SP Tryz.prog true vals bs df [.slot 4] Q):AM.Sem Tryz.prog 171 vals bs Q:=
 oZ (keeps:=[(0,[0,1]),(1,[0,1,7,8]),(2,[0,1,7,8,9]),(3,[0,1,5,7,8]),(4,[0,1,5,7,8,16]),(5,[4]),(6,[0,1,7,8]),(7,[4])]) (solo:=[]) Tryz.func171 rfl hn h
def v7:RC:=
 (.seq (rR [1] [oQ 1 (.box (.t 0)),oQ 2 (.mov (.c (.bool false)))]) (.seq (rR [1,3] [oQ 4 (.build [(.int .i64 0)] [(0,1,(.c (.int .i64 200)))]),oQ 5 (.box (.t 4)),qM 3 5]) (.seq (rR [2] [qM 6 3,qA 7 4 1,oQ 8 (cF 109 [(.t 6),(.t 7),(.c (.int .i64 20))]),qM 2 8]) .ret)))
theorem wm(hn:vals.length<=9)(h:SP Tryz.prog true vals bs v7 [.slot 2] Q):AM.Sem Tryz.prog 78 vals bs Q:=
 oZ (keeps:=[(0,[1]),(1,[1,3]),(2,[2])]) (solo:=[]) Tryz.func78 rfl hn h
def lA:RC:=
 (.seq (rR [0,2,4] [oQ 4 (.box (.t 1)),oQ 6 (.mov (.c (.bool false)))]) (.seq (rR [0,2,4] [qM 7 0,qK 8 7,qF 9 0 8,qL 10 9,oQ 11 (.bin .sub (.t 10) (.c (.int .i64 1))),qK 12 7,qF 13 0 12,oN (.store 1 (.t 13) (.t 11))]) (.seq (.seq (rR [0,2,4,22] [qM 14 0,qK 15 14,qF 16 0 15,qL 17 16,oQ 18 (.bin .lss (.t 17) (.c (.int .i64 0))),qM 19 18,oG 20 19 false (.mov (.t 2)),oG 21 19 false (.bin .lss (.t 20) (.c (.int .i64 1))),oQ 22 (.pick (.t 19) (.c (.bool true)) (.t 21))]) (.cond (.t 22) (.seq (rR [6] [oQ 6 (.mov (.c (.bool false)))]) .ret) .skip)) (.seq (.seq (rR [0,2,4,24] [qF 23 0 4,qL 24 23]) (.block 0 (.seq (rR [0,2,4,24,25] [oQ 26 (.bin .eql (.t 24) (.c (.int .i64 0))),qM 25 26]) (.cond (.t 25) (.seq (rR [6] [qF 27 1 4,qL 28 27,oQ 29 (.bin .geq (.t 28) (.c (.int .i64 (-2147483648)))),qM 30 29,oG 31 30 true (.aT 1 (.t 4)),oG 32 30 true (.load false 1 (.t 31)),oG 33 30 true (.bin .leq (.t 32) (.c (.int .i64 2147483648))),oQ 34 (.pick (.t 30) (.t 33) (.c (.bool false))),qM 35 34,oG 36 35 true (.aT 2 (.t 4)),oG 37 35 true (.load false 1 (.t 36)),oG 38 35 true (.bin .eql (.t 37) (.c (.str ⟨⟨[]⟩⟩))),oQ 39 (.pick (.t 35) (.t 38) (.c (.bool false))),qM 40 39,oG 41 40 true (.aT 3 (.t 4)),oG 42 40 true (.load false 1 (.t 41)),oG 43 40 true (.len false (.t 42)),oG 44 40 true (.bin .eql (.t 43) (.c (.int .i64 0))),oQ 45 (.pick (.t 40) (.t 44) (.c (.bool false))),qM 6 45])
 .ret) (.seq (rR [0,2,4,24,46] [oQ 47 (.bin .eql (.t 24) (.c (.int .i64 1))),qM 46 47]) (.cond (.t 46) (.seq (rR [6] [qF 48 1 4,qL 49 48,oQ 50 (.bin .geq (.t 49) (.c (.int .i64 0))),qM 51 50,oG 52 51 true (.aT 1 (.t 4)),oG 53 51 true (.load false 1 (.t 52)),oG 54 51 true (.bin .leq (.t 53) (.c (.int .i64 1048576))),oQ 55 (.pick (.t 51) (.t 54) (.c (.bool false))),qM 56 55,oG 57 56 true (.aT 2 (.t 4)),oG 58 56 true (.load false 1 (.t 57)),oG 59 56 true (.bin .eql (.t 58) (.c (.str ⟨⟨[]⟩⟩))),oQ 60 (.pick (.t 56) (.t 59) (.c (.bool false))),qM 61 60,oG 62 61 true (.aT 3 (.t 4)),oG 63 61 true (.load false 1 (.t 62)),oG 64 61 true (.len false (.t 63)),oG 65 61 true (.bin .eql (.t 64) (.c (.int .i64 0))),oQ 66 (.pick (.t 61) (.t 65) (.c (.bool false))),qM 6 66]) .ret) (.seq (rR [0,2,4,67] [oQ 68 (.bin .eql (.t 24) (.c (.int .i64 2))),qM 67 68]) (.cond (.t 67)
 (.seq (.seq (rR [0,2,4,77] [qF 69 1 4,qL 70 69,oQ 71 (.bin .neq (.t 70) (.c (.int .i64 0))),qM 72 71,oG 73 72 false (.aT 3 (.t 4)),oG 74 72 false (.load false 1 (.t 73)),oG 75 72 false (.len false (.t 74)),oG 76 72 false (.bin .gtr (.t 75) (.c (.int .i64 6))),oQ 77 (.pick (.t 72) (.c (.bool true)) (.t 76))]) (.cond (.t 77) (.seq (rR [6] [oQ 6 (.mov (.c (.bool false)))]) .ret) .skip)) (.seq (.seq (rR [0,2,4,93] [qF 78 2 4,qL 79 78,oQ 80 (cF 130 [(.t 79)]),oQ 81 (.un .not (.t 80)),qM 82 81,oG 83 82 true (.aT 2 (.t 4)),oG 84 82 true (.load false 1 (.t 83)),oG 85 82 true (cF 140 [(.t 84)]),oG 86 82 true (.mov (.t 85)),oG 87 86 true (.aT 3 (.t 4)),oG 88 86 true (.load false 1 (.t 87)),oG 89 86 true (.len false (.t 88)),oG 90 86 true (.bin .eql (.t 89) (.c (.int .i64 2))),oG 91 82 true (.pick (.t 86) (.t 90) (.c (.bool false))),oG 92 82 true (.un .not (.t 91)),oQ 93 (.pick (.t 82) (.t 92) (.c (.bool false)))])
 (.cond (.t 93) (.seq (rR [6] [oQ 6 (.mov (.c (.bool false)))]) .ret) .skip)) (.seq (rR [6] [qM 94 0,qF 95 3 4,qL 96 95,qM 97 2,oQ 98 (.bin .sub (.t 97) (.c (.int .i64 1))),oQ 99 (cF 96 [(.t 94),(.t 96),(.t 98)]),qM 6 99]) .ret))) .skip)))))))) (.seq (rR [6] [oQ 6 (.mov (.c (.bool false)))]) .ret)))))
theorem lJ(hn:vals.length<=100)(h:SP Tryz.prog true vals bs lA [.slot 6] Q):AM.Sem Tryz.prog 109 vals bs Q:=
 oZ (keeps:=[(0,[0,2,4]),(1,[0,2,4]),(2,[0,2,4,22]),(3,[6]),(4,[0,2,4,24]),(5,[0,2,4,24,25]),(7,[0,2,4,24,46]),(9,[0,2,4,67]),(10,[0,2,4,77]),(11,[6]),(12,[0,2,4,93]),(13,[6]),(14,[6]),(8,[6]),(6,[6]),(15,[6])]) (solo:=[]) Tryz.func109 rfl hn h
def mT:RC:=
 (.seq (rR [0,1,2] [oQ 6 (.mov (.c (.bool false)))]) (.seq (.seq (rR [0,1,2,9,10] [qM 8 1,oQ 9 (.len false (.t 8)),oQ 10 (.mov (.c (.int .i64 0)))]) (.block 0 (.loop (.seq (rR [0,1,2,9,10,11] [oQ 11 (.bin .lss (.t 10) (.t 9))]) (.seq (.cond (.t 11) .skip (.exit 0)) (.seq (.block 1 (.seq (rR [0,1,2,7,9,10] [qM 12 10,qM 7 12]) (.seq (rR [0,1,2,9,10,20] [qM 13 0,qM 14 1,qM 15 7,qI 16 4 14 15,qA 17 4 16,qM 18 2,oQ 19 (cF 109 [(.t 13),(.t 17),(.t 18)]),oQ 20 (.un .not (.t 19))]) (.cond (.t 20) (.seq (rR [6] [oQ 6 (.mov (.c (.bool false)))]) .ret) .skip)))) (rR [0,1,2,9,10] [oQ 21 (.bin .add (.t 10) (.c (.int .i64 1))),qM 10 21]))))))) (.seq (rR [6] [oQ 6 (.mov (.c (.bool true)))]) .ret)))
theorem mY(hn:vals.length<=22)(h:SP Tryz.prog true vals bs mT [.slot 6] Q):AM.Sem Tryz.prog 96 vals bs Q:=
 oZ (keeps:=[(0,[0,1,2]),(1,[0,1,2,9,10]),(2,[0,1,2,9,10,11]),(3,[0,1,2,7,9,10]),(4,[0,1,2,9,10,20]),(5,[6]),(6,[0,1,2,9,10]),(7,[6])]) (solo:=[]) Tryz.func96 rfl hn h
def v8:RC:=
 (.seq (rR [0] [oQ 2 (.mov (.c (.bool false)))]) (.seq (rR [2] [qM 3 0,oQ 4 (cF 165 [(.t 3),(.c (.int .u8 1))]),qM 5 4,oG 6 5 true (.mov (.t 0)),oG 7 5 true (cF 166 [(.t 6)]),oG 8 5 true (.un .not (.t 7)),oQ 9 (.pick (.t 5) (.t 8) (.c (.bool false))),qM 2 9]) .ret))
theorem wo(hn:vals.length<=10)(h:SP Tryz.prog true vals bs v8 [.slot 2] Q):AM.Sem Tryz.prog 130 vals bs Q:=
 oZ (keeps:=[(0,[0]),(1,[2])]) (solo:=[]) Tryz.func130 rfl hn h
def qN:RC:=
 (.seq (rR [0] [oQ 2 (.mov (.c (.bool false)))]) (.seq (rR [2] [qM 3 0,oQ 4 (.len true (.t 3)),oQ 5 (.bin .eql (.t 4) (.c (.int .i64 1))),qM 6 5,oG 7 6 true (.mov (.t 0)),oG 8 6 true (cF 170 [(.c (.str ⟨⟨[43,45,42,47,37]⟩⟩)),(.t 7)]),oQ 9 (.pick (.t 6) (.t 8) (.c (.bool false))),qM 2 9]) .ret))
theorem kE(hn:vals.length<=10)(h:SP Tryz.prog true vals bs qN [.slot 2] Q):AM.Sem Tryz.prog 140 vals bs Q:=
 oZ (keeps:=[(0,[0]),(1,[2])]) (solo:=[]) Tryz.func140 rfl hn h
def qJ:RC:=
 (.seq (rR [0] [oQ 2 (.mov (.c (.bool false)))]) (.seq (.seq (rR [3] [qM 3 0]) (.block 0 (.seq (.seq (rR [3,4] [oQ 5 (.bin .eql (.t 3) (.c (.str ⟨⟨[99,111,110,115,116,114,97,105,110,116]⟩⟩))),qM 4 5]) (.cond (.t 4) .skip (.seq (rR [3,4] [oQ 6 (.bin .eql (.t 3) (.c (.str ⟨⟨[116,114,117,101]⟩⟩))),qM 4 6]) (.cond (.t 4) .skip (.seq (rR [3,4] [oQ 7 (.bin .eql (.t 3) (.c (.str ⟨⟨[102,97,105,108]⟩⟩))),qM 4 7]) (.cond (.t 4) .skip (.seq (rR [3,4] [oQ 8 (.bin .eql (.t 3) (.c (.str ⟨⟨[105,115]⟩⟩))),qM 4 8]) (.cond (.t 4) .skip (.seq (rR [3,4] [oQ 9 (.bin .eql (.t 3) (.c (.str ⟨⟨[105,110,116]⟩⟩))),qM 4 9]) (.cond (.t 4) .skip (rR [4] [oQ 10 (.bin .eql (.t 3) (.c (.str ⟨⟨[103,114,111,117,110,100]⟩⟩))),qM 4 10]))))))))))) (.cond (.t 4) (.seq (rR [2] [oQ 2 (.mov (.c (.bool true)))]) .ret) .skip)))) (.seq (rR [2] [oQ 2 (.mov (.c (.bool false)))]) .ret)))
theorem qV(hn:vals.length<=11)(h:SP Tryz.prog true vals bs qJ [.slot 2] Q):AM.Sem Tryz.prog 166 vals bs Q:=
 oZ (keeps:=[(0,[0]),(1,[3]),(2,[3,4]),(3,[3,4]),(4,[3,4]),(5,[3,4]),(6,[3,4]),(7,[4]),(8,[2]),(9,[2])]) (solo:=[]) Tryz.func166 rfl hn h
def jr:RC:=
 (.seq (rR [0] [oQ 2 (.mov (.c (.bool false)))]) (.seq (.seq (rR [0,3] [oQ 3 (.mov (.c (.int .i64 0)))]) (.block 0 (.loop (.seq (.seq (rR [0,3,7] [qM 4 3,qM 5 0,oQ 6 (.len false (.t 5)),oQ 7 (.bin .lss (.t 4) (.t 6))]) (.cond (.t 7) .skip (.exit 0))) (.seq (.block 1 (.seq (.reg true [0,3,50] [qM 10 0,qM 11 3,qI 12 5 10 11,qF 13 0 12,qL 14 13,oQ 15 (.bin .lss (.t 14) (.c (.int .i64 0))),qM 16 15,oG 17 16 false (.mov (.t 0)),oG 18 16 false (.mov (.t 3)),oG 19 16 false (.idx 5 (.t 17) (.t 18)),oG 20 16 false (.aT 0 (.t 19)),oG 21 16 false (.load false 1 (.t 20)),oG 22 16 false (.bin .gtr (.t 21) (.c (.int .i64 1048576))),oQ 23 (.pick (.t 16) (.c (.bool true)) (.t 22)),qM 24 23,oG 25 24 false (.mov (.t 3)),oG 26 24 false (.bin .gtr (.t 25) (.c (.int .i64 0))),oG 27 24 false (.mov (.t 26)),oG 28 27 true (.mov (.t 0)),oG 29 27 true (.mov (.t 3)),oG 30 27 true (.idx 5 (.t 28) (.t 29)),oG 31 27 true (.aT 0 (.t 30)),oG 32 27 true (.load false 1 (.t 31)),oG 33 27 true (.mov (.t 0)),oG 34 27 true (.mov (.t 3)),oG 35 27 true (.bin .sub (.t 34) (.c (.int .i64 1))),oG 36 27 true (.idx 5 (.t 33) (.t 35)),oG 37 27 true (.aT 0 (.t 36)),oG 38 27 true (.load false 1 (.t 37)),oG 39 27 true (.bin .leq (.t 32) (.t 38)),oG 40 24 false (.pick (.t 27) (.t 39) (.c (.bool false))),oQ 41 (.pick (.t 24) (.c (.bool true)) (.t 40)),qM 42 41,oG 43 42 false (.mov (.t 0)),oG 44 42 false (.mov (.t 3)),oG 45 42 false (.idx 5 (.t 43) (.t 44)),oG 46 42 false (.aT 1 (.t 45)),oG 47 42 false (.load true 4 (.t 46)),oG 48 42 false (cF 71 [(.t 47)]),oG 49 42 false (.un .not (.t 48)),oQ 50 (.pick (.t 42) (.c (.bool true)) (.t 49))])
 (.cond (.t 50) (.seq (rR [2] [oQ 2 (.mov (.c (.bool false)))]) .ret) .skip))) (rR [0,3] [qM 8 3,oQ 9 (.bin .add (.t 8) (.c (.int .i64 1))),qM 3 9])))))) (.seq (rR [2] [qM 51 0,oQ 52 (cF 72 [(.t 51)]),qM 2 52]) .ret)))
theorem jI(hn:vals.length<=53)(h:SP Tryz.prog true vals bs jr [.slot 2] Q):AM.Sem Tryz.prog 29 vals bs Q:=
 oZ (keeps:=[(0,[0]),(1,[0,3]),(2,[0,3,7]),(4,[0,3,50]),(5,[2]),(3,[0,3]),(6,[2])]) (solo:=[]) Tryz.func29 rfl hn h
def js:RC:=
 (.seq (rR [0,3,4] [oQ 3 (.box (.t 1)),oQ 4 (.box (.c (.agg [(.int .i64 0),(.int .i64 0),(.str ⟨⟨[]⟩⟩),(.sl .full [])])))]) (.seq (.seq (rR [0,3,4,8] [qF 7 0 3,qL 8 7]) (.block 0 (.seq (rR [0,3,4,8,9] [oQ 10 (.bin .eql (.t 8) (.c (.int .i64 1))),qM 9 10]) (.cond (.t 9) (.seq (rR [3,4,5,6] [qM 12 0,qF 13 1 3,qL 14 13,oQ 15 (cF 84 [(.t 12),(.t 14)]),qM 11 15,oQ 16 (.ext 0 (.t 11)),oQ 17 (.ext 1 (.t 11)),oQ 5 (.box (.c (.agg [(.int .i64 0),(.int .i64 0),(.str ⟨⟨[]⟩⟩),(.sl .full [])]))),oN (.store 4 (.t 5) (.t 16)),qM 6 17]) (.seq (rR [3,4,5,18] [qM 18 6]) (.cond (.t 18) (.seq (rR [4] [qA 19 4 5,oN (.store 4 (.t 4) (.t 19))]) .ret) .skip))) (.seq (rR [0,3,4,20] [oQ 21 (.bin .eql (.t 8) (.c (.int .i64 2))),qM 20 21]) (.cond (.t 20) (rR [3,4] [qM 22 0,qF 23 3 3,qL 24 23,oQ 25 (cF 76 [(.t 22),(.t 24)]),qF 26 3 3,oN (.store 1 (.t 26) (.t 25))])
 .skip)))))) (.seq (rR [4] [qA 27 4 3,oN (.store 4 (.t 4) (.t 27))]) .ret)))
theorem bu(hn:vals.length<=28)(h:SP Tryz.prog true vals bs js [.cell 4 true 4] Q):AM.Sem Tryz.prog 48 vals bs Q:=
 oZ (keeps:=[(0,[0,3,4]),(1,[0,3,4,8]),(2,[0,3,4,8,9]),(6,[0,3,4,20]),(7,[3,4]),(3,[3,4,5,6]),(4,[3,4,5,18]),(5,[4]),(8,[4])]) (solo:=[]) Tryz.func48 rfl hn h
def jq:RC:=
 (.seq (rR [0] [oQ 2 (.mov (.c (.bool false)))]) (.seq (.seq (rR [0,3] [oQ 3 (.mov (.c (.int .i64 0)))]) (.block 0 (.loop (.seq (.seq (rR [0,3,11] [qM 8 3,qM 9 0,oQ 10 (.len false (.t 9)),oQ 11 (.bin .lss (.t 8) (.t 10))]) (.cond (.t 11) .skip (.exit 0))) (.seq (.block 1 (.seq (rR [0,3,4] [qM 14 0,qM 15 3,qI 16 5 14 15,qF 17 1 16,qA 18 4 17,oQ 19 (cF 100 [(.t 18)]),qM 4 19]) (.seq (rR [0,3,4,5] [oQ 5 (.mov (.c (.int .i64 0)))]) (.block 2 (.loop (.seq (.seq (rR [0,3,4,5,23] [qM 20 5,qM 21 4,oQ 22 (.len false (.t 21)),oQ 23 (.bin .lss (.t 20) (.t 22))]) (.cond (.t 23) .skip (.exit 2))) (.seq (.block 3 (.seq (rR [0,3,4,5,7] [qM 27 0,qM 28 4,qM 29 5,qI 30 1 28 29,qL 31 30,oQ 32 (cF 84 [(.t 27),(.t 31)]),qM 26 32,oQ 33 (.ext 0 (.t 26)),oQ 34 (.ext 1 (.t 26)),oQ 6 (.box (.c (.agg [(.int .i64 0),(.int .i64 0),(.str ⟨⟨[]⟩⟩),(.sl .full [])]))),oN (.store 4 (.t 6) (.t 33)),qM 7 34])
 (.seq (rR [0,3,4,5,35] [qM 35 7]) (.cond (.t 35) (.seq (rR [2] [oQ 2 (.mov (.c (.bool false)))]) .ret) .skip)))) (rR [0,3,4,5] [qM 24 5,oQ 25 (.bin .add (.t 24) (.c (.int .i64 1))),qM 5 25])))))))) (rR [0,3] [qM 12 3,oQ 13 (.bin .add (.t 12) (.c (.int .i64 1))),qM 3 13])))))) (.seq (rR [2] [oQ 2 (.mov (.c (.bool true)))]) .ret)))
theorem jH(hn:vals.length<=36)(h:SP Tryz.prog true vals bs jq [.slot 2] Q):AM.Sem Tryz.prog 72 vals bs Q:=
 oZ (keeps:=[(0,[0]),(1,[0,3]),(2,[0,3,11]),(4,[0,3,4]),(5,[0,3,4,5]),(6,[0,3,4,5,23]),(8,[0,3,4,5,7]),(9,[0,3,4,5,35]),(10,[2]),(7,[0,3,4,5]),(3,[0,3]),(11,[2])]) (solo:=[]) Tryz.func72 rfl hn h
def iD:RC:=
 (.seq (rR [0,1,4] [oQ 4 (.box (.c (.agg [(.int .i64 0),(.int .i64 0),(.str ⟨⟨[]⟩⟩),(.sl .full [])]))),oQ 5 (.mov (.c (.bool false)))]) (.seq (.seq (rR [0,1,4,6] [oQ 6 (.mov (.c (.int .i64 0)))]) (.block 0 (.loop (.seq (.seq (rR [0,1,4,6,10] [qM 7 6,qM 8 0,oQ 9 (.len false (.t 8)),oQ 10 (.bin .lss (.t 7) (.t 9))]) (.cond (.t 10) .skip (.exit 0))) (.seq (.block 1 (.seq (rR [0,1,4,6,19] [qM 13 0,qM 14 6,qI 15 5 13 14,qF 16 0 15,qL 17 16,qM 18 1,oQ 19 (.bin .eql (.t 17) (.t 18))]) (.cond (.t 19) (.seq (rR [4,5] [qM 20 0,qM 21 6,qI 22 5 20 21,qF 23 1 22,qA 24 4 23,oN (.store 4 (.t 4) (.t 24)),oQ 5 (.mov (.c (.bool true)))]) .ret) .skip))) (rR [0,1,4,6] [qM 11 6,oQ 12 (.bin .add (.t 11) (.c (.int .i64 1))),qM 6 12])))))) (.seq (rR [4,5] [oQ 25 (.build [(.int .i64 0),(.int .i64 0),(.str ⟨⟨[]⟩⟩),(.sl .full [])] []),oN (.store 4 (.t 4) (.t 25)),oQ 5 (.mov (.c (.bool false)))])
 .ret)))
theorem iI(hn:vals.length<=26)(h:SP Tryz.prog true vals bs iD [.cell 4 true 4,.slot 5] Q):AM.Sem Tryz.prog 84 vals bs Q:=
 oZ (keeps:=[(0,[0,1,4]),(1,[0,1,4,6]),(2,[0,1,4,6,10]),(4,[0,1,4,6,19]),(5,[4,5]),(3,[0,1,4,6]),(6,[4,5])]) (solo:=[]) Tryz.func84 rfl hn h
def fp:RC:=
 (.seq (rR [0,1] [oQ 4 (.mov (.c (.sl .full [])))]) (.seq (rR [0,1,5] [oQ 5 (.mov (.c (.sl .full [])))]) (.seq (.seq (rR [0,1,5,6] [oQ 6 (.mov (.c (.int .i64 0)))]) (.block 0 (.loop (.seq (.seq (rR [0,1,5,6,10] [qM 7 6,qM 8 1,oQ 9 (.len false (.t 8)),oQ 10 (.bin .lss (.t 7) (.t 9))]) (.cond (.t 10) .skip (.exit 0))) (.seq (.block 1 (rR [0,1,5,6] [qM 13 5,qM 14 0,qM 15 1,qM 16 6,qI 17 4 15 16,qA 18 4 17,oQ 19 (cF 48 [(.t 14),(.t 18)]),oQ 20 (.aG 4 [(.t 19)]),oQ 21 (.append 4 (.t 13) (.t 20)),qM 5 21])) (rR [0,1,5,6] [qM 11 6,oQ 12 (.bin .add (.t 11) (.c (.int .i64 1))),qM 6 12])))))) (.seq (rR [4] [qM 22 5,qM 4 22]) .ret))))
theorem fu(hn:vals.length<=23)(h:SP Tryz.prog true vals bs fp [.slot 4] Q):AM.Sem Tryz.prog 76 vals bs Q:=
 oZ (keeps:=[(0,[0,1]),(1,[0,1,5]),(2,[0,1,5,6]),(3,[0,1,5,6,10]),(5,[0,1,5,6]),(4,[0,1,5,6]),(6,[4])]) (solo:=[]) Tryz.func76 rfl hn h
def jw:RC:=
 (.seq (rR [1] [oQ 1 (.box (.t 0)),oQ 2 (.mov (.c (.bool false)))]) (.seq (rR [2] [qA 3 4 1,oQ 4 (cF 105 [(.t 3)]),qM 5 4,oG 6 5 true (.load true 4 (.t 1)),oG 7 5 true (cF 106 [(.t 6)]),oG 8 5 true (.bin .leq (.t 7) (.c (.int .i64 200))),oQ 9 (.pick (.t 5) (.t 8) (.c (.bool false))),qM 10 9,oG 11 10 true (.load true 4 (.t 1)),oG 12 10 true (cF 107 [(.t 11)]),oG 13 10 true (.bin .leq (.t 12) (.c (.int .i64 20))),oQ 14 (.pick (.t 10) (.t 13) (.c (.bool false))),qM 2 14]) .ret))
theorem jM(hn:vals.length<=15)(h:SP Tryz.prog true vals bs jw [.slot 2] Q):AM.Sem Tryz.prog 71 vals bs Q:=
 oZ (keeps:=[(0,[1]),(1,[2])]) (solo:=[]) Tryz.func71 rfl hn h
def ko:RC:=
 (.seq (rR [1] [oQ 1 (.box (.t 0)),oQ 2 (.mov (.c (.bool false)))]) (.seq (.seq (rR [1,6] [qF 5 0 1,qL 6 5]) (.block 0 (.seq (rR [1,6,7] [oQ 8 (.bin .eql (.t 6) (.c (.int .i64 0))),qM 7 8]) (.cond (.t 7) (.seq (rR [2] [qF 9 1 1,qL 10 9,oQ 11 (.bin .geq (.t 10) (.c (.int .i64 (-2147483648)))),qM 12 11,oG 13 12 true (.aT 1 (.t 1)),oG 14 12 true (.load false 1 (.t 13)),oG 15 12 true (.bin .leq (.t 14) (.c (.int .i64 2147483648))),oQ 16 (.pick (.t 12) (.t 15) (.c (.bool false))),qM 17 16,oG 18 17 true (.aT 2 (.t 1)),oG 19 17 true (.load false 1 (.t 18)),oG 20 17 true (.bin .eql (.t 19) (.c (.str ⟨⟨[]⟩⟩))),oQ 21 (.pick (.t 17) (.t 20) (.c (.bool false))),qM 22 21,oG 23 22 true (.aT 3 (.t 1)),oG 24 22 true (.load false 1 (.t 23)),oG 25 22 true (.len false (.t 24)),oG 26 22 true (.bin .eql (.t 25) (.c (.int .i64 0))),oQ 27 (.pick (.t 22) (.t 26) (.c (.bool false))),qM 2 27])
 .ret) (.seq (rR [1,6,28] [oQ 29 (.bin .eql (.t 6) (.c (.int .i64 1))),qM 28 29]) (.cond (.t 28) (.seq (rR [2] [qF 30 1 1,qL 31 30,oQ 32 (.bin .geq (.t 31) (.c (.int .i64 0))),qM 33 32,oG 34 33 true (.aT 1 (.t 1)),oG 35 33 true (.load false 1 (.t 34)),oG 36 33 true (.bin .leq (.t 35) (.c (.int .i64 1048576))),oQ 37 (.pick (.t 33) (.t 36) (.c (.bool false))),qM 38 37,oG 39 38 true (.aT 2 (.t 1)),oG 40 38 true (.load false 1 (.t 39)),oG 41 38 true (.bin .eql (.t 40) (.c (.str ⟨⟨[]⟩⟩))),oQ 42 (.pick (.t 38) (.t 41) (.c (.bool false))),qM 43 42,oG 44 43 true (.aT 3 (.t 1)),oG 45 43 true (.load false 1 (.t 44)),oG 46 43 true (.len false (.t 45)),oG 47 43 true (.bin .eql (.t 46) (.c (.int .i64 0))),oQ 48 (.pick (.t 43) (.t 47) (.c (.bool false))),qM 2 48]) .ret) (.seq (rR [1,49] [oQ 50 (.bin .eql (.t 6) (.c (.int .i64 2))),qM 49 50]) (.cond (.t 49) (.seq (rR [1,3] [
 qF 51 2 1,qL 52 51,oQ 53 (cF 135 [(.t 52)]),qM 54 53,oG 55 54 true (.aT 3 (.t 1)),oG 56 54 true (.load false 1 (.t 55)),oG 57 54 true (.len false (.t 56)),oG 58 54 true (.bin .eql (.t 57) (.c (.int .i64 2))),oQ 59 (.pick (.t 54) (.t 58) (.c (.bool false))),qM 3 59]) (.seq (.seq (rR [1,78] [qF 60 1 1,qL 61 60,oQ 62 (.bin .neq (.t 61) (.c (.int .i64 0))),qM 63 62,oG 64 63 false (.mov (.t 3)),oG 65 63 false (.un .not (.t 64)),oG 66 63 false (.mov (.t 65)),oG 67 66 true (.aT 2 (.t 1)),oG 68 66 true (.load false 1 (.t 67)),oG 69 66 true (cF 108 [(.t 68)]),oG 70 66 true (.un .not (.t 69)),oG 71 66 true (.mov (.t 70)),oG 72 71 false (.aT 3 (.t 1)),oG 73 71 false (.load false 1 (.t 72)),oG 74 71 false (.len false (.t 73)),oG 75 71 false (.bin .gtr (.t 74) (.c (.int .i64 6))),oG 76 66 true (.pick (.t 71) (.c (.bool true)) (.t 75)),oG 77 63 false (.pick (.t 66) (.t 76) (.c (.bool false))),oQ 78 (.pick (.t 63) (.c (.bool true)) (.t 77))])
 (.cond (.t 78) (.seq (rR [2] [oQ 2 (.mov (.c (.bool false)))]) .ret) .skip)) (.seq (.seq (rR [1,4] [oQ 4 (.mov (.c (.int .i64 0)))]) (.block 1 (.loop (.seq (.seq (rR [1,4,83] [qM 79 4,qF 80 3 1,qL 81 80,oQ 82 (.len false (.t 81)),oQ 83 (.bin .lss (.t 79) (.t 82))]) (.cond (.t 83) .skip (.exit 1))) (.seq (.block 2 (.seq (rR [1,4,92] [qF 86 3 1,qL 87 86,qM 88 4,qI 89 4 87 88,qA 90 4 89,oQ 91 (cF 105 [(.t 90)]),oQ 92 (.un .not (.t 91))]) (.cond (.t 92) (.seq (rR [2] [oQ 2 (.mov (.c (.bool false)))]) .ret) .skip))) (rR [1,4] [qM 84 4,oQ 85 (.bin .add (.t 84) (.c (.int .i64 1))),qM 4 85])))))) (.seq (rR [2] [oQ 2 (.mov (.c (.bool true)))]) .ret)))) .skip)))))))) (.seq (rR [2] [oQ 2 (.mov (.c (.bool false)))]) .ret)))
theorem ax(hn:vals.length<=93)(h:SP Tryz.prog true vals bs ko [.slot 2] Q):AM.Sem Tryz.prog 105 vals bs Q:=
 oZ (keeps:=[(0,[1]),(1,[1,6]),(2,[1,6,7]),(4,[1,6,28]),(6,[1,49]),(7,[1,3]),(8,[1,78]),(9,[2]),(10,[1,4]),(11,[1,4,83]),(13,[1,4,92]),(14,[2]),(12,[1,4]),(15,[2]),(5,[2]),(3,[2]),(16,[2])]) (solo:=[]) Tryz.func105 rfl hn h
def kv:RC:=
 (.seq (rR [1] [oQ 1 (.box (.t 0)),oQ 2 (.mov (.c (.int .i64 0)))]) (.seq (rR [1,3] [oQ 3 (.mov (.c (.int .i64 1)))]) (.seq (rR [3,4] [qA 6 4 1,oQ 7 (cF 136 [(.t 6)]),qM 4 7]) (.seq (.seq (rR [3,4,5] [oQ 5 (.mov (.c (.int .i64 0)))]) (.block 0 (.loop (.seq (.seq (rR [3,4,5,11] [qM 8 5,qM 9 4,oQ 10 (.len false (.t 9)),oQ 11 (.bin .lss (.t 8) (.t 10))]) (.cond (.t 11) .skip (.exit 0))) (.seq (.block 1 (rR [3,4,5] [qM 14 3,qM 15 4,qM 16 5,qI 17 4 15 16,qA 18 4 17,oQ 19 (cF 106 [(.t 18)]),oQ 20 (.bin .add (.t 14) (.t 19)),qM 3 20])) (rR [3,4,5] [qM 12 5,oQ 13 (.bin .add (.t 12) (.c (.int .i64 1))),qM 5 13])))))) (.seq (rR [2] [qM 21 3,qM 2 21]) .ret)))))
theorem kI(hn:vals.length<=22)(h:SP Tryz.prog true vals bs kv [.slot 2] Q):AM.Sem Tryz.prog 106 vals bs Q:=
 oZ (keeps:=[(0,[1]),(1,[1,3]),(2,[3,4]),(3,[3,4,5]),(4,[3,4,5,11]),(6,[3,4,5]),(5,[3,4,5]),(7,[2])]) (solo:=[]) Tryz.func106 rfl hn h
def jx:RC:=
 (.seq (rR [1] [oQ 1 (.box (.t 0)),oQ 2 (.mov (.c (.int .i64 0)))]) (.seq (rR [1,3] [oQ 3 (.mov (.c (.int .i64 0)))]) (.seq (rR [3,4] [qA 6 4 1,oQ 7 (cF 136 [(.t 6)]),qM 4 7]) (.seq (.seq (rR [3,4,5] [oQ 5 (.mov (.c (.int .i64 0)))]) (.block 0 (.loop (.seq (.seq (rR [3,4,5,11] [qM 8 5,qM 9 4,oQ 10 (.len false (.t 9)),oQ 11 (.bin .lss (.t 8) (.t 10))]) (.cond (.t 11) .skip (.exit 0))) (.seq (.block 1 (rR [3,4,5] [qM 14 3,qM 15 4,qM 16 5,qI 17 4 15 16,qA 18 4 17,oQ 19 (cF 107 [(.t 18)]),oQ 20 (.c6 true (.t 14) (.t 19)),qM 3 20])) (rR [3,4,5] [qM 12 5,oQ 13 (.bin .add (.t 12) (.c (.int .i64 1))),qM 5 13])))))) (.seq (rR [2] [qM 21 3,oQ 22 (.bin .add (.t 21) (.c (.int .i64 1))),qM 2 22]) .ret)))))
theorem jN(hn:vals.length<=23)(h:SP Tryz.prog true vals bs jx [.slot 2] Q):AM.Sem Tryz.prog 107 vals bs Q:=
 oZ (keeps:=[(0,[1]),(1,[1,3]),(2,[3,4]),(3,[3,4,5]),(4,[3,4,5,11]),(6,[3,4,5]),(5,[3,4,5]),(7,[2])]) (solo:=[]) Tryz.func107 rfl hn h
def kx:RC:=
 (.seq (rR [2,3] [oQ 2 (.box (.t 0)),oQ 3 (.box (.t 1)),oQ 4 (.mov (.c (.bool false)))]) (.seq (rR [4] [qA 5 4 2,qA 6 4 3,oQ 7 (cF 85 [(.t 5),(.t 6)]),oQ 8 (.bin .eql (.t 7) (.c (.int .i64 0))),qM 4 8]) .ret))
theorem kJ(hn:vals.length<=9)(h:SP Tryz.prog true vals bs kx [.slot 4] Q):AM.Sem Tryz.prog 45 vals bs Q:=
 oZ (keeps:=[(0,[2,3]),(1,[4])]) (solo:=[]) Tryz.func45 rfl hn h
def fV:RC:=
 (.seq (rR [0] [oQ 2 (.mov (.c (.bool false)))]) (.seq (rR [2] [qM 3 0,oQ 4 (.bin .eql (.t 3) (.c (.str ⟨⟨[43]⟩⟩))),qM 5 4,oG 6 5 false (.mov (.t 0)),oG 7 5 false (.bin .eql (.t 6) (.c (.str ⟨⟨[45]⟩⟩))),oQ 8 (.pick (.t 5) (.c (.bool true)) (.t 7)),qM 9 8,oG 10 9 false (.mov (.t 0)),oG 11 9 false (.bin .eql (.t 10) (.c (.str ⟨⟨[42]⟩⟩))),oQ 12 (.pick (.t 9) (.c (.bool true)) (.t 11)),qM 13 12,oG 14 13 false (.mov (.t 0)),oG 15 13 false (.bin .eql (.t 14) (.c (.str ⟨⟨[47]⟩⟩))),oQ 16 (.pick (.t 13) (.c (.bool true)) (.t 15)),qM 17 16,oG 18 17 false (.mov (.t 0)),oG 19 17 false (.bin .eql (.t 18) (.c (.str ⟨⟨[37]⟩⟩))),oQ 20 (.pick (.t 17) (.c (.bool true)) (.t 19)),qM 2 20]) .ret))
theorem fY(hn:vals.length<=21)(h:SP Tryz.prog true vals bs fV [.slot 2] Q):AM.Sem Tryz.prog 135 vals bs Q:=
 oZ (keeps:=[(0,[0]),(1,[2])]) (solo:=[]) Tryz.func135 rfl hn h
def jA:RC:=
 (.seq (rR [0] [oQ 2 (.mov (.c (.bool false)))]) (.seq (rR [2] [qM 3 0,oQ 4 (cF 137 [(.t 3)]),qM 5 4,oG 6 5 true (.mov (.t 0)),oG 7 5 true (.pg (.t 6) (.c (.int .i64 0))),oG 8 5 true (cF 138 [(.t 7)]),oQ 9 (.pick (.t 5) (.t 8) (.c (.bool false))),qM 10 9,oG 11 10 true (.mov (.t 0)),oG 12 10 true (cF 139 [(.t 11)]),oG 13 10 true (.un .not (.t 12)),oQ 14 (.pick (.t 10) (.t 13) (.c (.bool false))),qM 2 14]) .ret))
theorem dx(hn:vals.length<=15)(h:SP Tryz.prog true vals bs jA [.slot 2] Q):AM.Sem Tryz.prog 108 vals bs Q:=
 oZ (keeps:=[(0,[0]),(1,[2])]) (solo:=[]) Tryz.func108 rfl hn h
def ky:RC:=
 (.seq (rR [0] [oQ 2 (.mov (.c (.bool false)))]) (.seq (.seq (rR [0,3] [oQ 3 (.mov (.c (.int .i64 0)))]) (.block 0 (.loop (.seq (.seq (rR [0,3,7] [qM 4 3,qM 5 0,oQ 6 (.len true (.t 5)),oQ 7 (.bin .lss (.t 4) (.t 6))]) (.cond (.t 7) .skip (.exit 0))) (.seq (.block 1 (.seq (rR [0,3,39] [qM 10 0,qM 11 3,oQ 12 (.pg (.t 10) (.t 11)),oQ 13 (cF 138 [(.t 12)]),oQ 14 (.un .not (.t 13)),qM 15 14,oG 16 15 true (.mov (.t 0)),oG 17 15 true (.mov (.t 3)),oG 18 15 true (.pg (.t 16) (.t 17)),oG 19 15 true (cF 169 [(.t 18)]),oG 20 15 true (.un .not (.t 19)),oQ 21 (.pick (.t 15) (.t 20) (.c (.bool false))),qM 22 21,oG 23 22 true (.mov (.t 0)),oG 24 22 true (.mov (.t 3)),oG 25 22 true (.pg (.t 23) (.t 24)),oG 26 22 true (.bin .lss (.t 25) (.c (.int .u8 48))),oG 27 22 true (.mov (.t 26)),oG 28 27 false (.mov (.t 0)),oG 29 27 false (.mov (.t 3)),oG 30 27 false (.pg (.t 28) (.t 29)),oG 31 27 false (.bin .gtr (.t 30) (.c (.int .u8 57))),oG 32 22 true (.pick (.t 27) (.c (.bool true)) (.t 31)),oQ 33 (.pick (.t 22) (.t 32) (.c (.bool false))),qM 34 33,oG 35 34 true (.mov (.t 0)),oG 36 34 true (.mov (.t 3)),oG 37 34 true (.pg (.t 35) (.t 36)),oG 38 34 true (.bin .neq (.t 37) (.c (.int .u8 95))),oQ 39 (.pick (.t 34) (.t 38) (.c (.bool false)))])
 (.cond (.t 39) (.seq (rR [2] [oQ 2 (.mov (.c (.bool false)))]) .ret) .skip))) (rR [0,3] [qM 8 3,oQ 9 (.bin .add (.t 8) (.c (.int .i64 1))),qM 3 9])))))) (.seq (rR [2] [qM 40 0,oQ 41 (.len true (.t 40)),oQ 42 (.bin .geq (.t 41) (.c (.int .i64 1))),qM 43 42,oG 44 43 true (.mov (.t 0)),oG 45 43 true (.len true (.t 44)),oG 46 43 true (.bin .leq (.t 45) (.c (.int .i64 40))),oQ 47 (.pick (.t 43) (.t 46) (.c (.bool false))),qM 2 47]) .ret)))
theorem kK(hn:vals.length<=48)(h:SP Tryz.prog true vals bs ky [.slot 2] Q):AM.Sem Tryz.prog 137 vals bs Q:=
 oZ (keeps:=[(0,[0]),(1,[0,3]),(2,[0,3,7]),(4,[0,3,39]),(5,[2]),(3,[0,3]),(6,[2])]) (solo:=[]) Tryz.func137 rfl hn h
def jz:RC:=
 (.seq (rR [0] [oQ 2 (.mov (.c (.bool false)))]) (.seq (rR [2] [qM 3 0,oQ 4 (.bin .geq (.t 3) (.c (.int .u8 97))),qM 5 4,oG 6 5 true (.mov (.t 0)),oG 7 5 true (.bin .leq (.t 6) (.c (.int .u8 122))),oQ 8 (.pick (.t 5) (.t 7) (.c (.bool false))),qM 2 8]) .ret))
theorem jP(hn:vals.length<=9)(h:SP Tryz.prog true vals bs jz [.slot 2] Q):AM.Sem Tryz.prog 138 vals bs Q:=
 oZ (keeps:=[(0,[0]),(1,[2])]) (solo:=[]) Tryz.func138 rfl hn h
def fU:RC:=
 (.seq (rR [0] [oQ 2 (.mov (.c (.bool false)))]) (.seq (rR [2] [qM 3 0,oQ 4 (.bin .eql (.t 3) (.c (.str ⟨⟨[99,111,110,115,116,114,97,105,110,116]⟩⟩))),qM 5 4,oG 6 5 false (.mov (.t 0)),oG 7 5 false (.bin .eql (.t 6) (.c (.str ⟨⟨[116,114,117,101]⟩⟩))),oQ 8 (.pick (.t 5) (.c (.bool true)) (.t 7)),qM 9 8,oG 10 9 false (.mov (.t 0)),oG 11 9 false (.bin .eql (.t 10) (.c (.str ⟨⟨[102,97,105,108]⟩⟩))),oQ 12 (.pick (.t 9) (.c (.bool true)) (.t 11)),qM 13 12,oG 14 13 false (.mov (.t 0)),oG 15 13 false (.bin .eql (.t 14) (.c (.str ⟨⟨[105,115]⟩⟩))),oQ 16 (.pick (.t 13) (.c (.bool true)) (.t 15)),qM 17 16,oG 18 17 false (.mov (.t 0)),oG 19 17 false (.bin .eql (.t 18) (.c (.str ⟨⟨[105,110,116]⟩⟩))),oQ 20 (.pick (.t 17) (.c (.bool true)) (.t 19)),qM 21 20,oG 22 21 false (.mov (.t 0)),oG 23 21 false (.bin .eql (.t 22) (.c (.str ⟨⟨[103,114,111,117,110,100]⟩⟩))),oQ 24 (.pick (.t 21) (.c (.bool true)) (.t 23)),qM 2 24])
 .ret))
theorem fX(hn:vals.length<=25)(h:SP Tryz.prog true vals bs fU [.slot 2] Q):AM.Sem Tryz.prog 139 vals bs Q:=
 oZ (keeps:=[(0,[0]),(1,[2])]) (solo:=[]) Tryz.func139 rfl hn h
def jy:RC:=
 (.seq (rR [0] [oQ 2 (.mov (.c (.bool false)))]) (.seq (rR [2] [qM 3 0,oQ 4 (.bin .geq (.t 3) (.c (.int .u8 65))),qM 5 4,oG 6 5 true (.mov (.t 0)),oG 7 5 true (.bin .leq (.t 6) (.c (.int .u8 90))),oQ 8 (.pick (.t 5) (.t 7) (.c (.bool false))),qM 2 8]) .ret))
theorem jO(hn:vals.length<=9)(h:SP Tryz.prog true vals bs jy [.slot 2] Q):AM.Sem Tryz.prog 169 vals bs Q:=
 oZ (keeps:=[(0,[0]),(1,[2])]) (solo:=[]) Tryz.func169 rfl hn h
def hP:RC:=
 (.seq
 (rR [0,1,2,6] [
 oQ 6 (.box (.c (.agg [(.int .i64 0),(.int .i64 0)]))),oQ 7 (.mov (.c (.bool false)))])
 (.seq
 (.seq
 (rR [0,1,2,6,8,9] [
 qM 18 0,qK 19 18,qF 20 5 19,qL 21 20,qM 22 1,oQ 23 (.eff (.getM true (.agg [(.int .i64 0),(.int .i64 0)])) [(.t 21),(.t 22)]),qM 17 23,oQ 24 (.ext 0 (.t 17)),oQ 25 (.ext 1 (.t 17)),oQ 8 (.box (.c (.agg [(.int .i64 0),(.int .i64 0)]))),oN (.store 2 (.t 8) (.t 24)),qM 9 25])
 (.seq
 (rR [0,1,2,6,8,26] [
 qM 26 9])
 (.cond (.t 26)
 (.seq
 (rR [6,7] [
 qA 27 2 8,oN (.store 2 (.t 6) (.t 27)),oQ 7 (.mov (.c (.bool true)))])
 .ret)
 .skip)))
 (.seq
 (.seq
 (rR [0,1,2,6,30] [
 qM 28 2,qM 29 1,oQ 30 (.eff (.getM false (.bool false)) [(.t 28),(.t 29)])])
 (.cond (.t 30)
 (.seq
 (rR [6,7] [
 oQ 31 (.build [(.int .i64 0),(.int .i64 0)] []),oN (.store 2 (.t 6) (.t 31)),oQ 7 (.mov (.c (.bool false)))])
 .ret)
 .skip))
 (.seq
 (rR [0,1,2,6] [
 qM 32 2,qM 33 1,oN (.eff .vV [(.t 32),(.t 33),(.c (.bool true))])])
 .skip))))
def hO:RC:=
 (.seq
 (rR [0,1,2,6,10] [
 oQ 36 (.build [(.int .i64 0),(.int .i64 0)] [(0,1,(.c (.int .i64 1))),(1,1,(.c (.int .i64 1)))]),oQ 10 (.box (.c (.agg [(.int .i64 0),(.int .i64 0)]))),oN (.store 2 (.t 10) (.t 36))])
 (.seq
 (.seq
 (rR [0,1,2,6,10,11,12] [
 qM 38 0,qK 39 38,qF 40 3 39,qL 41 40,qM 42 1,oQ 43 (.eff (.getM true (.int .i64 0)) [(.t 41),(.t 42)]),qM 37 43,oQ 44 (.ext 0 (.t 37)),oQ 45 (.ext 1 (.t 37)),qM 11 44,qM 12 45])
 (.seq
 (rR [0,1,2,6,10,11,46] [
 qM 46 12])
 (.cond (.t 46)
 (.seq
 (rR [0,1,2,6,10,54,55,56] [
 qM 47 0,qK 48 47,qF 49 0 48,oQ 50 (.lod 1 false 1 (.t 49)),qM 51 11,qI 52 5 50 51,qF 53 4 52,qL 54 53,oQ 55 (.len false (.t 54)),oQ 56 (.mov (.c (.int .i64 0)))])
 (.block 0
 (.loop
 (.seq
 (rR [0,1,2,6,10,54,55,56,57] [
 oQ 57 (.bin .lss (.t 56) (.t 55))])
 (.seq
 (.cond (.t 57)
 .skip
 (.exit 0))
 (.seq
 (.block 1
 (.seq
 (rR [0,1,2,6,10,14,54,55,56] [
 qI 58 1 54 56,qL 59 58,qM 14 59])
 (.seq
 (rR [0,1,2,6,10,15,16,54,55,56] [
 qM 61 0,qM 62 0,qM 63 14,oQ 64 (cF 144 [(.t 62),(.t 63)]),qM 65 2,oQ 66 (cF 147 [(.t 61),(.t 64),(.t 65)]),qM 60 66,oQ 67 (.ext 0 (.t 60)),oQ 68 (.ext 1 (.t 60)),oQ 15 (.box (.c (.agg [(.int .i64 0),(.int .i64 0)]))),oN (.store 2 (.t 15) (.t 67)),qM 16 68])
 (.seq
 (.seq
 (rR [0,1,2,6,10,15,54,55,56,70] [
 qM 69 16,oQ 70 (.un .not (.t 69))])
 (.cond (.t 70)
 (.seq
 (rR [6,7] [
 oQ 71 (.build [(.int .i64 0),(.int .i64 0)] []),oN (.store 2 (.t 6) (.t 71)),oQ 7 (.mov (.c (.bool false)))])
 .ret)
 .skip))
 (.seq
 (rR [0,1,2,6,10,15,54,55,56] [
 qF 72 0 10,qL 73 72,qF 74 0 15,qL 75 74,oQ 76 (.bin .add (.t 73) (.t 75)),oQ 77 (.c6 false (.t 76) (.c (.int .i64 201))),qF 78 0 10,oN (.store 1 (.t 78) (.t 77))])
 (rR [0,1,2,6,10,54,55,56] [
 qF 79 1 10,qL 80 79,qF 81 1 15,qL 82 81,oQ 83 (.bin .add (.t 82) (.c (.int .i64 1))),oQ 84 (.c6 true (.t 80) (.t 83)),oQ 85 (.c6 false (.t 84) (.c (.int .i64 21))),qF 86 1 10,oN (.store 1 (.t 86) (.t 85))]))))))
 (rR [0,1,2,6,10,54,55,56] [
 oQ 87 (.bin .add (.t 56) (.c (.int .i64 1))),qM 56 87])))))))
 .skip)))
 (.seq
 (.solo 6 [6,10] [
 qM 88 0,qK 89 88,qF 90 5 89,qL 91 90,qM 92 1,qA 93 2 10,oN (.eff .vV [(.t 91),(.t 92),(.t 93)])])
 (.seq
 (rR [6,7] [
 qA 94 2 10,oN (.store 2 (.t 6) (.t 94)),oQ 7 (.mov (.c (.bool true)))])
 .ret))))
theorem iG(hn:vals.length<=95)(h:SPD Tryz.prog vals bs hP [qM 34 2,qM 35 1] (.t 34) (.t 35) hO [.cell 6 true 2,.slot 7] Q):AM.Sem Tryz.prog 147 vals bs Q:=
 Sem.nrm (Sem.ofD (fn:=Tryz.f147) (keeps:=[(0,[0,1,2,6]),(1,[0,1,2,6,8,9]),(2,[0,1,2,6,8,26]),(3,[6,7]),(4,[0,1,2,6,30]),(5,[6,7]),(6,[0,1,2,6]),(7,[0,1,2,6]),(8,[0,1,2,6,10]),(9,[0,1,2,6,10,11,12]),(10,[0,1,2,6,10,11,46]),(11,[0,1,2,6,10,54,55,56]),(12,[0,1,2,6,10,54,55,56,57]),(13,[0,1,2,6,10,14,54,55,56]),(14,[0,1,2,6,10,15,16,54,55,56]),(15,[0,1,2,6,10,15,54,55,56,70]),(16,[6,7]),(17,[0,1,2,6,10,15,54,55,56]),(18,[0,1,2,6,10,54,55,56]),(19,[0,1,2,6,10,54,55,56]),(20,[6,10]),(21,[6,7]),(1000000,[8050])]) (solo:=[(20,6)]) Tryz.func147 rfl (by kernel_rfl) (by kernel_rfl) (by kernel_rfl) hn (Io h))
end Go.CK
