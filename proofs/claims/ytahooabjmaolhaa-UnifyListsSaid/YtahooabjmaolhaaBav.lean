/-
  Texts of this claim joined (wip/gen/bundle.py), those declarations only that are needed: RcUni. By an AI agent.
-/
import Derived.Test.YtahooabjmaolhaaProg
import Derived.Test.YtahooabjmaolhaaBar
import Derived.Test.YtahooabjmaolhaaBau
set_option linter.unusedSimpArgs false
set_option linter.unusedVariables false
namespace Go.CK
open Go.AM Go.Proofs
variable {vals : List AV} {bs : List Box} {Q : AV -> List Box -> Prop}
def rc_unify_newGraph : RC :=
 (.seq
 (.reg false [] [
 oQ 0 (.mov (.c .nptr))])
 (.seq
 (.reg false [0] [
 oQ 1 (.eff .mkM []), oQ 2 (.eff .mkM []), oQ 3 (.eff .mkM []), oQ 4 (.eff .mkM []), oQ 5 (.build [(.sl .full []), .nmp, (.sl .full []), .nmp, .nmp, .nmp] [(1, 1, (.t 1)), (3, 1, (.t 2)), (4, 1, (.t 3)), (5, 1, (.t 4))]), oQ 6 (.box (.t 5)), oQ 0 (.mov (.t 6))])
 .ret))
theorem op_unify_newGraph (hn : vals.length ≤ 7) (h : SP Try.prog true vals bs rc_unify_newGraph [.slot 0] Q) : AM.Sem Try.prog 26 vals bs Q :=
 Sem.nrm (Sem.of (fn := Try.f26) (keeps := [(0, []), (1, [0])]) (solo := []) Try.func26 rfl (by kernel_rfl) (by kernel_rfl) (by kernel_rfl) hn (run_gp h))
def rc_unify_valid : RC :=
 (.seq
 (.reg false [0] [
 oQ 2 (.mov (.c (.bool false)))])
 (.seq
 (.reg false [2] [
 oQ 3 (.mov (.t 0)), oQ 4 (.call (.c (.fn (.func 38) [] [])) [(.t 3), (.c (.fn (.func 39) [] []))]), oQ 5 (.un .not (.t 4)), oQ 2 (.mov (.t 5))])
 .ret))
theorem op_unify_valid (hn : vals.length ≤ 6) (h : SP Try.prog true vals bs rc_unify_valid [.slot 2] Q) : AM.Sem Try.prog 25 vals bs Q :=
 Sem.nrm (Sem.of (fn := Try.f25) (keeps := [(0, [0]), (1, [2])]) (solo := []) Try.func25 rfl (by kernel_rfl) (by kernel_rfl) (by kernel_rfl) hn (run_gp h))
def rc_unify_Unify : RC :=
 (.seq
 (.reg false [2, 3] [
 oQ 2 (.box (.t 0)), oQ 3 (.box (.t 1)), oQ 4 (.mov (.c (.sl .full []))), oQ 5 (.mov (.c (.int .i64 0)))])
 (.seq
 (.reg false [4, 5] [
 oQ 6 (.load true 4 (.t 2)), oQ 7 (.bslice 4 [(.t 6)]), oQ 8 (.load true 4 (.t 3)), oQ 9 (.bslice 4 [(.t 8)]), oQ 10 (.call (.c (.fn (.func 16) [] [])) [(.t 7), (.t 9)]), oQ 11 (.ext 0 (.t 10)), oQ 12 (.ext 1 (.t 10)), oQ 4 (.mov (.t 11)), oQ 5 (.mov (.t 12))])
 .ret))
theorem op_unify_Unify (hn : vals.length ≤ 13) (h : SP Try.prog true vals bs rc_unify_Unify [.slot 4, .slot 5] Q) : AM.Sem Try.prog 10 vals bs Q :=
 Sem.nrm (Sem.of (fn := Try.f10) (keeps := [(0, [2, 3]), (1, [4, 5])]) (solo := []) Try.func10 rfl (by kernel_rfl) (by kernel_rfl) (by kernel_rfl) hn (run_gp h))
def rc_unify_Unifiable : RC :=
 (.seq
 (.reg false [2, 3] [
 oQ 2 (.box (.t 0)), oQ 3 (.box (.t 1)), oQ 4 (.mov (.c (.bool false)))])
 (.seq
 (.reg false [6] [
 oQ 8 (.load true 4 (.t 2)), oQ 9 (.load true 4 (.t 3)), oQ 10 (.call (.c (.fn (.func 10) [] [])) [(.t 8), (.t 9)]), oQ 7 (.mov (.t 10)), oQ 11 (.ext 0 (.t 7)), oQ 12 (.ext 1 (.t 7)), oQ 5 (.mov (.t 11)), oQ 6 (.mov (.t 12))])
 (.seq
 (.reg false [4] [
 oQ 13 (.mov (.t 6)), oQ 14 (.bin .eql (.t 13) (.c (.int .i64 0))), oQ 15 (.mov (.t 14)), oG 16 15 false (.mov (.t 6)), oG 17 15 false (.bin .eql (.t 16) (.c (.int .i64 6))), oQ 18 (.pick (.t 15) (.c (.bool true)) (.t 17)), oQ 4 (.mov (.t 18))])
 .ret)))
theorem op_unify_Unifiable (hn : vals.length ≤ 19) (h : SP Try.prog true vals bs rc_unify_Unifiable [.slot 4] Q) : AM.Sem Try.prog 13 vals bs Q :=
 Sem.nrm (Sem.of (fn := Try.f13) (keeps := [(0, [2, 3]), (1, [6]), (2, [4])]) (solo := []) Try.func13 rfl (by kernel_rfl) (by kernel_rfl) (by kernel_rfl) hn (run_gp h))
def rc_unify_All : RC :=
 (.seq
 (.reg false [0, 1] [
 oQ 4 (.mov (.c (.sl .full []))), oQ 5 (.mov (.c (.int .i64 0)))])
 (.seq
 (.block 0
 (.seq
 (.reg false [0, 1, 8] [
 oQ 9 (.mov (.t 0)), oQ 10 (.call (.c (.fn (.func 25) [] [])) [(.t 9)]), oQ 11 (.un .not (.t 10)), oQ 12 (.mov (.t 11)), oG 13 12 false (.mov (.t 1)), oG 14 12 false (.call (.c (.fn (.func 25) [] [])) [(.t 13)]), oG 15 12 false (.un .not (.t 14)), oQ 16 (.pick (.t 12) (.c (.bool true)) (.t 15)), oQ 8 (.mov (.t 16))])
 (.cond (.t 8)
 (.seq
 (.reg false [4, 5] [
 oQ 4 (.mov (.c (.sl .full []))), oQ 5 (.mov (.c (.int .i64 2)))])
 .ret)
 (.seq
 (.reg false [0, 1, 17] [
 oQ 18 (.mov (.t 0)), oQ 19 (.len false (.t 18)), oQ 20 (.mov (.t 1)), oQ 21 (.len false (.t 20)), oQ 22 (.bin .neq (.t 19) (.t 21)), oQ 17 (.mov (.t 22))])
 (.cond (.t 17)
 (.seq
 (.reg false [4, 5] [
 oQ 4 (.mov (.c (.sl .full []))), oQ 5 (.mov (.c (.int .i64 9)))])
 .ret)
 .skip)))))
 (.seq
 (.reg false [0, 1, 6] [
 oQ 23 (.call (.c (.fn (.func 26) [] [])) []), oQ 6 (.mov (.t 23))])
 (.seq
 (.seq
 (.reg false [0, 1, 6, 25, 26] [
 oQ 24 (.mov (.t 0)), oQ 25 (.len false (.t 24)), oQ 26 (.mov (.c (.int .i64 0)))])
 (.block 1
 (.loop
 (.seq
 (.reg false [0, 1, 6, 25, 26, 27] [
 oQ 27 (.bin .lss (.t 26) (.t 25))])
 (.seq
 (.cond (.t 27)
 .skip
 (.exit 1))
 (.seq
 (.block 2
 (.seq
 (.reg false [0, 1, 6, 7, 25, 26] [
 oQ 28 (.mov (.t 26)), oQ 7 (.mov (.t 28))])
 (.seq
 (.mult [0, 1, 6, 25, 26, 45] [
 (0, oQ 29 (.mov (.t 6))), (0, oQ 30 (.mov (.t 6))), (0, oQ 31 (.mov (.t 0))), (0, oQ 32 (.mov (.t 7))), (0, oQ 33 (.idx 4 (.t 31) (.t 32))), (0, oQ 34 (.load true 4 (.t 33))), (0, oQ 36 (.mov (.t 6))), (0, oQ 37 (.mov (.t 1))), (0, oQ 38 (.mov (.t 7))), (0, oQ 39 (.idx 4 (.t 37) (.t 38))), (0, oQ 40 (.load true 4 (.t 39))), (2, oQ 35 (.call (.c (.fn (.func 28) [] [])) [(.t 30), (.t 34)])), (2, oQ 41 (.call (.c (.fn (.func 28) [] [])) [(.t 36), (.t 40)])), (0, oQ 42 (.build [(.int .i64 0), (.int .i64 0)] [(0, 1, (.t 35)), (1, 1, (.t 41))])), (2, oQ 43 (.eff (.bsR 2) [(.t 42)])), (1, oQ 44 (.call (.c (.fn (.func 27) [] [])) [(.t 29), (.t 43)])), (0, oQ 45 (.un .not (.t 44)))])
 (.cond (.t 45)
 (.seq
 (.reg false [4, 5] [
 oQ 4 (.mov (.c (.sl .full []))), oQ 5 (.mov (.c (.int .i64 13)))])
 .ret)
 .skip))))
 (.reg false [0, 1, 6, 25, 26] [
 oQ 46 (.bin .add (.t 26) (.c (.int .i64 1))), oQ 26 (.mov (.t 46))])))))))
 (.seq
 (.reg false [4, 5] [
 oQ 47 (.mov (.t 6)), oQ 48 (.call (.c (.fn (.func 29) [] [])) [(.t 47)]), oQ 49 (.ext 0 (.t 48)), oQ 50 (.ext 1 (.t 48)), oQ 4 (.mov (.t 49)), oQ 5 (.mov (.t 50))])
 .ret)))))
theorem op_unify_All (hn : vals.length ≤ 51) (h : SP Try.prog true vals bs rc_unify_All [.slot 4, .slot 5] Q) : AM.Sem Try.prog 16 vals bs Q :=
 Sem.nrm (Sem.of (fn := Try.f16) (keeps := [(0, [0, 1]), (1, [0, 1, 8]), (3, [0, 1, 17]), (4, [4, 5]), (2, [4, 5]), (5, [0, 1, 6]), (6, [0, 1, 6, 25, 26]), (7, [0, 1, 6, 25, 26, 27]), (8, [0, 1, 6, 7, 25, 26]), (9, [0, 1, 6, 25, 26, 45]), (10, [4, 5]), (11, [0, 1, 6, 25, 26]), (12, [4, 5]), (1000000, [43]), (2000009, [0, 1, 2, 3, 4, 5, 7, 8, 9, 10, 11, 6, 12, 13, 14, 15, 16]), (3000009, [0, 0, 0, 0, 0, 0, 2, 0, 0, 0, 0, 0, 2, 0, 2, 1, 0])]) (solo := []) Try.func16 rfl (by kernel_rfl) (by kernel_rfl) (by kernel_rfl) hn (run_gp h))
def rc_unify_valid_1 : RC :=
 (.seq
 (.reg false [1] [
 oQ 1 (.box (.t 0)), oQ 2 (.mov (.c (.bool false)))])
 (.seq
 (.reg false [2] [
 oQ 3 (.load true 4 (.t 1)), oQ 4 (.call (.c (.fn (.func 40) [] [])) [(.t 3)]), oQ 5 (.un .not (.t 4)), oQ 2 (.mov (.t 5))])
 .ret))
theorem op_unify_valid_1 (hn : vals.length ≤ 6) (h : SP Try.prog true vals bs rc_unify_valid_1 [.slot 2] Q) : AM.Sem Try.prog 39 vals bs Q :=
 Sem.nrm (Sem.of (fn := Try.f39) (keeps := [(0, [1]), (1, [2])]) (solo := []) Try.func39 rfl (by kernel_rfl) (by kernel_rfl) (by kernel_rfl) hn (run_gp h))
def rc_p_unify_graph_root : RC :=
 (.seq
 (.reg false [0, 1] [
 oQ 4 (.mov (.c (.int .i64 0)))])
 (.seq
 (.block 0
 (.loop
 (.seq
 (.seq
 (.reg false [0, 1, 13] [
 oQ 5 (.mov (.t 0)), oQ 6 (.nilck (.t 5)), oQ 7 (.fptr 2 (.t 6)), oQ 8 (.load false 1 (.t 7)), oQ 9 (.mov (.t 1)), oQ 10 (.idx 1 (.t 8) (.t 9)), oQ 11 (.load false 1 (.t 10)), oQ 12 (.mov (.t 1)), oQ 13 (.bin .neq (.t 11) (.t 12))])
 (.cond (.t 13)
 .skip
 (.exit 0)))
 (.block 1
 (.seq
 (.mult [0, 1] [
 (0, oQ 14 (.mov (.t 0))), (0, oQ 15 (.nilck (.t 14))), (0, oQ 16 (.fptr 2 (.t 15))), (0, oQ 17 (.load false 1 (.t 16))), (0, oQ 18 (.mov (.t 1))), (0, oQ 19 (.mov (.t 0))), (0, oQ 20 (.nilck (.t 19))), (0, oQ 21 (.fptr 2 (.t 20))), (0, oQ 22 (.load false 1 (.t 21))), (0, oQ 23 (.mov (.t 0))), (0, oQ 24 (.nilck (.t 23))), (0, oQ 25 (.fptr 2 (.t 24))), (0, oQ 26 (.load false 1 (.t 25))), (0, oQ 27 (.mov (.t 1))), (0, oQ 28 (.idx 1 (.t 26) (.t 27))), (0, oQ 29 (.load false 1 (.t 28))), (0, oQ 30 (.idx 1 (.t 22) (.t 29))), (0, oQ 31 (.load false 1 (.t 30))), (0, oQ 32 (.idx 1 (.t 17) (.t 18))), (1, oN (.store 1 (.t 32) (.t 31)))])
 (.reg false [0, 1] [
 oQ 33 (.mov (.t 0)), oQ 34 (.nilck (.t 33)), oQ 35 (.fptr 2 (.t 34)), oQ 36 (.load false 1 (.t 35)), oQ 37 (.mov (.t 1)), oQ 38 (.idx 1 (.t 36) (.t 37)), oQ 39 (.load false 1 (.t 38)), oQ 1 (.mov (.t 39))]))))))
 (.seq
 (.reg false [4] [
 oQ 40 (.mov (.t 1)), oQ 4 (.mov (.t 40))])
 .ret)))
theorem op_p_unify_graph_root (hn : vals.length ≤ 41) (h : SP Try.prog true vals bs rc_p_unify_graph_root [.slot 4] Q) : AM.Sem Try.prog 41 vals bs Q :=
 Sem.nrm (Sem.of (fn := Try.f41) (keeps := [(0, [0, 1]), (1, [0, 1, 13]), (2, [0, 1]), (3, [0, 1]), (4, [4]), (2000002, [0, 1, 2, 3, 4, 5, 6, 7, 8, 9, 10, 11, 12, 13, 14, 15, 16, 17, 18, 19]), (3000002, [0, 0, 0, 0, 0, 0, 0, 0, 0, 0, 0, 0, 0, 0, 0, 0, 0, 0, 0, 1])]) (solo := []) Try.func41 rfl (by kernel_rfl) (by kernel_rfl) (by kernel_rfl) hn (run_gp h))
def rc_p_unify_graph_join : RC :=
 (.seq
 (.reg false [0, 1] [
 oQ 4 (.mov (.c (.bool false)))])
 (.seq
 (.block 0
 (.loop
 (.seq
 (.seq
 (.reg false [0, 1, 16] [
 oQ 14 (.mov (.t 1)), oQ 15 (.len false (.t 14)), oQ 16 (.bin .gtr (.t 15) (.c (.int .i64 0)))])
 (.cond (.t 16)
 .skip
 (.exit 0)))
 (.block 1
 (.seq
 (.reg false [0, 1, 5] [
 oQ 17 (.mov (.t 1)), oQ 18 (.len false (.t 17)), oQ 19 (.bin .sub (.t 18) (.c (.int .i64 1))), oQ 5 (.mov (.t 19))])
 (.seq
 (.mult [0, 1, 5, 6, 7] [
 (0, oQ 20 (.mov (.t 0))), (0, oQ 21 (.mov (.t 1))), (0, oQ 22 (.mov (.t 5))), (0, oQ 23 (.idx 2 (.t 21) (.t 22))), (0, oQ 24 (.idxA 2 1 (.t 23) (.c (.int .i64 0)))), (0, oQ 25 (.load false 1 (.t 24))), (0, oQ 27 (.mov (.t 0))), (0, oQ 28 (.mov (.t 1))), (0, oQ 29 (.mov (.t 5))), (0, oQ 30 (.idx 2 (.t 28) (.t 29))), (0, oQ 31 (.idxA 2 1 (.t 30) (.c (.int .i64 1)))), (0, oQ 32 (.load false 1 (.t 31))), (2, oQ 26 (.call (.c (.fn (.func 41) [] [])) [(.t 20), (.t 25)])), (1, oQ 33 (.call (.c (.fn (.func 41) [] [])) [(.t 27), (.t 32)])), (0, oQ 6 (.take 26)), (0, oQ 7 (.take 33))])
 (.seq
 (.reg false [0, 1, 6, 7] [
 oQ 34 (.mov (.t 1)), oQ 35 (.mov (.t 5)), oQ 36 (.slc 2 (.t 34) none (some (.t 35)) none), oQ 1 (.mov (.t 36))])
 (.seq
 (.seq
 (.reg false [0, 1, 6, 7, 39] [
 oQ 37 (.mov (.t 6)), oQ 38 (.mov (.t 7)), oQ 39 (.bin .eql (.t 37) (.t 38))])
 (.cond (.t 39)
 (.exit 1)
 .skip))
 (.seq
 (.reg false [0, 1, 6, 7, 8, 9] [
 oQ 41 (.mov (.t 0)), oQ 42 (.nilck (.t 41)), oQ 43 (.fptr 3 (.t 42)), oQ 44 (.load false 1 (.t 43)), oQ 45 (.mov (.t 6)), oQ 46 (.eff (.getM true (.int .i64 0)) [(.t 44), (.t 45)]), oQ 40 (.mov (.t 46)), oQ 47 (.ext 0 (.t 40)), oQ 48 (.ext 1 (.t 40)), oQ 8 (.mov (.t 47)), oQ 9 (.mov (.t 48))])
 (.seq
 (.reg false [0, 1, 6, 7, 8, 9, 10, 11] [
 oQ 50 (.mov (.t 0)), oQ 51 (.nilck (.t 50)), oQ 52 (.fptr 3 (.t 51)), oQ 53 (.load false 1 (.t 52)), oQ 54 (.mov (.t 7)), oQ 55 (.eff (.getM true (.int .i64 0)) [(.t 53), (.t 54)]), oQ 49 (.mov (.t 55)), oQ 56 (.ext 0 (.t 49)), oQ 57 (.ext 1 (.t 49)), oQ 10 (.mov (.t 56)), oQ 11 (.mov (.t 57))])
 (.seq
 (.seq
 (.reg false [0, 1, 6, 7, 8, 10, 61] [
 oQ 58 (.mov (.t 9)), oQ 59 (.mov (.t 58)), oG 60 59 true (.mov (.t 11)), oQ 61 (.pick (.t 59) (.t 60) (.c (.bool false)))])
 (.cond (.t 61)
 (.seq
 (.seq
 (.reg false [0, 1, 6, 7, 8, 10, 66] [
 oQ 62 (.mov (.t 0)), oQ 63 (.mov (.t 8)), oQ 64 (.mov (.t 10)), oQ 65 (.call (.c (.fn (.func 42) [] [])) [(.t 62), (.t 63), (.t 64)]), oQ 66 (.un .not (.t 65))])
 (.cond (.t 66)
 (.seq
 (.reg false [4] [
 oQ 4 (.mov (.c (.bool false)))])
 .ret)
 .skip))
 (.seq
 (.reg false [0, 1, 6, 7, 10, 74, 75, 76] [
 oQ 67 (.mov (.t 0)), oQ 68 (.nilck (.t 67)), oQ 69 (.fptr 0 (.t 68)), oQ 70 (.lod 1 false 1 (.t 69)), oQ 71 (.mov (.t 8)), oQ 72 (.idx 5 (.t 70) (.t 71)), oQ 73 (.fptr 4 (.t 72)), oQ 74 (.load false 1 (.t 73)), oQ 75 (.len false (.t 74)), oQ 76 (.mov (.c (.int .i64 0)))])
 (.block 2
 (.loop
 (.seq
 (.reg false [0, 1, 6, 7, 10, 74, 75, 76, 77] [
 oQ 77 (.bin .lss (.t 76) (.t 75))])
 (.seq
 (.cond (.t 77)
 .skip
 (.exit 2))
 (.seq
 (.block 3
 (.seq
 (.reg false [0, 1, 6, 7, 10, 12, 13, 74, 75, 76] [
 oQ 78 (.mov (.t 76)), oQ 79 (.idx 1 (.t 74) (.t 76)), oQ 80 (.load false 1 (.t 79)), oQ 12 (.mov (.t 78)), oQ 13 (.mov (.t 80))])
 (.reg false [0, 1, 6, 7, 10, 74, 75, 76] [
 oQ 81 (.mov (.t 1)), oQ 82 (.mov (.t 13)), oQ 83 (.mov (.t 0)), oQ 84 (.nilck (.t 83)), oQ 85 (.fptr 0 (.t 84)), oQ 86 (.lod 1 false 1 (.t 85)), oQ 87 (.mov (.t 10)), oQ 88 (.idx 5 (.t 86) (.t 87)), oQ 89 (.fptr 4 (.t 88)), oQ 90 (.load false 1 (.t 89)), oQ 91 (.mov (.t 12)), oQ 92 (.idx 1 (.t 90) (.t 91)), oQ 93 (.load false 1 (.t 92)), oQ 94 (.build [(.int .i64 0), (.int .i64 0)] [(0, 1, (.t 82)), (1, 1, (.t 93))]), oQ 95 (.bslice 2 [(.t 94)]), oQ 96 (.eff (.appB 2) [(.t 81), (.t 95)]), oQ 1 (.mov (.t 96))])))
 (.reg false [0, 1, 6, 7, 10, 74, 75, 76] [
 oQ 97 (.bin .add (.t 76) (.c (.int .i64 1))), oQ 76 (.mov (.t 97))]))))))))
 .skip))
 (.reg false [0, 1] [
 oQ 98 (.mov (.t 0)), oQ 99 (.mov (.t 6)), oQ 100 (.mov (.t 7)), oQ 101 (.call (.c (.fn (.func 43) [] [])) [(.t 98), (.t 99), (.t 100)])]))))))))))))
 (.seq
 (.reg false [4] [
 oQ 4 (.mov (.c (.bool true)))])
 .ret)))
theorem op_p_unify_graph_join (hn : vals.length ≤ 102) (h : SP Try.prog true vals bs rc_p_unify_graph_join [.slot 4] Q) : AM.Sem Try.prog 27 vals bs Q :=
 Sem.nrm (Sem.of (fn := Try.f27) (keeps := [(0, [0, 1]), (1, [0, 1, 16]), (2, [0, 1, 5]), (3, [0, 1, 5, 6, 7]), (4, [0, 1, 6, 7]), (5, [0, 1, 6, 7, 39]), (6, [0, 1, 6, 7, 8, 9]), (7, [0, 1, 6, 7, 8, 9, 10, 11]), (8, [0, 1, 6, 7, 8, 10, 61]), (9, [0, 1, 6, 7, 8, 10, 66]), (10, [4]), (11, [0, 1, 6, 7, 10, 74, 75, 76]), (12, [0, 1, 6, 7, 10, 74, 75, 76, 77]), (13, [0, 1, 6, 7, 10, 12, 13, 74, 75, 76]), (14, [0, 1, 6, 7, 10, 74, 75, 76]), (15, [0, 1, 6, 7, 10, 74, 75, 76]), (16, [0, 1]), (17, [4]), (1000000, [96, 8070, 8086]), (2000003, [0, 1, 2, 3, 4, 5, 7, 8, 9, 10, 11, 12, 6, 13, 14, 15]), (3000003, [0, 0, 0, 0, 0, 0, 2, 0, 0, 0, 0, 0, 0, 1, 0, 0])]) (solo := []) Try.func27 rfl (by kernel_rfl) (by kernel_rfl) (by kernel_rfl) hn (run_gp h))
def rc_p_unify_graph_add : RC :=
 (.seq
 (.reg false [0, 3] [
 oQ 3 (.box (.t 1)), oQ 4 (.mov (.c (.int .i64 0)))])
 (.seq
 (.seq
 (.reg false [0, 3, 13] [
 oQ 11 (.fptr 0 (.t 3)), oQ 12 (.load false 1 (.t 11)), oQ 13 (.bin .eql (.t 12) (.c (.int .i64 1)))])
 (.cond (.t 13)
 (.seq
 (.solo 6 [0, 3, 5, 6] [
 oQ 15 (.mov (.t 0)), oQ 16 (.nilck (.t 15)), oQ 17 (.fptr 1 (.t 16)), oQ 18 (.load false 1 (.t 17)), oQ 19 (.fptr 1 (.t 3)), oQ 20 (.load false 1 (.t 19)), oQ 21 (.eff (.getM true (.int .i64 0)) [(.t 18), (.t 20)]), oQ 14 (.mov (.t 21)), oQ 22 (.ext 0 (.t 14)), oQ 23 (.ext 1 (.t 14)), oQ 5 (.mov (.t 22)), oQ 6 (.mov (.t 23))])
 (.seq
 (.reg false [0, 3, 5, 24] [
 oQ 24 (.mov (.t 6))])
 (.cond (.t 24)
 (.seq
 (.reg false [4] [
 oQ 25 (.mov (.t 5)), oQ 4 (.mov (.t 25))])
 .ret)
 .skip)))
 .skip))
 (.seq
 (.reg false [0, 3, 7] [
 oQ 26 (.load true 4 (.t 3)), oQ 27 (.build [(.int .i64 0), (.int .i64 0), (.str ⟨⟨[]⟩⟩), (.sl .full []), (.sl .full [])] [(0, 4, (.t 26))]), oQ 7 (.box (.c (.agg [(.int .i64 0), (.int .i64 0), (.str ⟨⟨[]⟩⟩), (.sl .full []), (.sl .full [])]))), oN (.store 5 (.t 7) (.t 27))])
 (.seq
 (.seq
 (.reg false [0, 3, 7, 29, 30, 31] [
 oQ 28 (.fptr 3 (.t 3)), oQ 29 (.load false 1 (.t 28)), oQ 30 (.len false (.t 29)), oQ 31 (.mov (.c (.int .i64 0)))])
 (.block 0
 (.loop
 (.seq
 (.reg false [0, 3, 7, 29, 30, 31, 32] [
 oQ 32 (.bin .lss (.t 31) (.t 30))])
 (.seq
 (.cond (.t 32)
 .skip
 (.exit 0))
 (.seq
 (.block 1
 (.seq
 (.reg false [0, 3, 7, 9, 29, 30, 31] [
 oQ 33 (.idx 4 (.t 29) (.t 31)), oQ 34 (.load true 4 (.t 33)), oQ 9 (.box (.c (.agg [(.int .i64 0), (.int .i64 0), (.str ⟨⟨[]⟩⟩), (.sl .full [])]))), oN (.store 4 (.t 9) (.t 34))])
 (.mult [0, 3, 7, 29, 30, 31] [
 (0, oQ 35 (.fptr 4 (.t 7))), (0, oQ 36 (.load false 1 (.t 35))), (0, oQ 37 (.mov (.t 0))), (0, oQ 38 (.load true 4 (.t 9))), (2, oQ 39 (.call (.c (.fn (.func 28) [] [])) [(.t 37), (.t 38)])), (0, oQ 40 (.bslice 1 [(.t 39)])), (1, oQ 41 (.eff (.appB 1) [(.t 36), (.t 40)])), (0, oQ 42 (.fptr 4 (.t 7))), (1, oN (.store 1 (.t 42) (.t 41)))])))
 (.reg false [0, 3, 7, 29, 30, 31] [
 oQ 43 (.bin .add (.t 31) (.c (.int .i64 1))), oQ 31 (.mov (.t 43))])))))))
 (.seq
 (.reg false [0, 3, 7, 10] [
 oQ 44 (.mov (.t 0)), oQ 45 (.nilck (.t 44)), oQ 46 (.fptr 0 (.t 45)), oQ 47 (.lod 1 false 1 (.t 46)), oQ 48 (.len false (.t 47)), oQ 10 (.mov (.t 48))])
 (.seq
 (.mult [0, 3, 10] [
 (0, oQ 49 (.mov (.t 0))), (0, oQ 50 (.mov (.t 0))), (0, oQ 51 (.nilck (.t 50))), (0, oQ 52 (.fptr 0 (.t 51))), (0, oQ 54 (.load true 5 (.t 7))), (0, oQ 55 (.bslice 5 [(.t 54)])), (2, oQ 53 (.load false 1 (.t 52))), (0, oQ 56 (.append 5 (.t 53) (.t 55))), (0, oQ 57 (.nilck (.t 49))), (0, oQ 58 (.fptr 0 (.t 57))), (1, oN (.store 1 (.t 58) (.t 56)))])
 (.seq
 (.reg false [0, 3, 10] [
 oQ 59 (.mov (.t 0)), oQ 60 (.mov (.t 0)), oQ 61 (.nilck (.t 60)), oQ 62 (.fptr 2 (.t 61)), oQ 63 (.load false 1 (.t 62)), oQ 64 (.mov (.t 10)), oQ 65 (.bslice 1 [(.t 64)]), oQ 66 (.eff (.appB 1) [(.t 63), (.t 65)]), oQ 67 (.nilck (.t 59)), oQ 68 (.fptr 2 (.t 67)), oN (.store 1 (.t 68) (.t 66))])
 (.seq
 (.seq
 (.reg false [0, 3, 10, 71] [
 oQ 69 (.fptr 0 (.t 3)), oQ 70 (.load false 1 (.t 69)), oQ 71 (.bin .eql (.t 70) (.c (.int .i64 1)))])
 (.cond (.t 71)
 (.mult [10] [
 (0, oQ 72 (.mov (.t 0))), (0, oQ 73 (.nilck (.t 72))), (0, oQ 74 (.fptr 1 (.t 73))), (0, oQ 75 (.load false 1 (.t 74))), (0, oQ 76 (.fptr 1 (.t 3))), (0, oQ 77 (.load false 1 (.t 76))), (0, oQ 78 (.mov (.t 0))), (0, oQ 79 (.nilck (.t 78))), (0, oQ 80 (.fptr 4 (.t 79))), (0, oQ 81 (.load false 1 (.t 80))), (0, oQ 82 (.mov (.t 10))), (0, oQ 83 (.mov (.t 10))), (0, oQ 84 (.fptr 1 (.t 3))), (0, oQ 85 (.load false 1 (.t 84))), (2, oQ 86 (.eff (.entM (.int .i64 0)) [(.t 75), (.t 77)])), (0, oQ 87 (.ext 1 (.t 86))), (2, oN (.eff .stoM [(.t 75), (.t 87), (.t 83)])), (2, oQ 88 (.eff (.entM (.int .i64 0)) [(.t 81), (.t 82)])), (0, oQ 89 (.ext 1 (.t 88))), (1, oN (.eff .stoM [(.t 81), (.t 89), (.t 85)]))])
 (.reg false [10] [
 oQ 90 (.mov (.t 0)), oQ 91 (.nilck (.t 90)), oQ 92 (.fptr 3 (.t 91)), oQ 93 (.load false 1 (.t 92)), oQ 94 (.mov (.t 10)), oQ 95 (.mov (.t 10)), oN (.eff .setM [(.t 93), (.t 94), (.t 95)])])))
 (.seq
 (.reg false [4] [
 oQ 96 (.mov (.t 10)), oQ 4 (.mov (.t 96))])
 .ret)))))))))
theorem op_p_unify_graph_add (hn : vals.length ≤ 97) (h : SP Try.prog true vals bs rc_p_unify_graph_add [.slot 4] Q) : AM.Sem Try.prog 28 vals bs Q :=
 Sem.nrm (Sem.of (fn := Try.f28) (keeps := [(0, [0, 3]), (1, [0, 3, 13]), (2, [0, 3, 5, 6]), (3, [0, 3, 5, 24]), (4, [4]), (5, [0, 3, 7]), (6, [0, 3, 7, 29, 30, 31]), (7, [0, 3, 7, 29, 30, 31, 32]), (8, [0, 3, 7, 9, 29, 30, 31]), (9, [0, 3, 7, 29, 30, 31]), (10, [0, 3, 7, 29, 30, 31]), (11, [0, 3, 7, 10]), (12, [0, 3, 10]), (13, [0, 3, 10]), (14, [0, 3, 10, 71]), (16, [10]), (15, [10]), (17, [4]), (1000000, [41, 66, 8047]), (2000009, [0, 1, 2, 3, 4, 5, 6, 7, 8]), (3000009, [0, 0, 0, 0, 2, 0, 1, 0, 1]), (2000012, [0, 1, 2, 3, 5, 6, 4, 7, 8, 9, 10]), (3000012, [0, 0, 0, 0, 2, 0, 0, 0, 0, 0, 1]), (2000015, [0, 1, 2, 3, 4, 5, 6, 7, 8, 9, 10, 11, 12, 13, 14, 15, 16, 17, 18, 19]), (3000015, [0, 0, 0, 0, 0, 0, 0, 0, 0, 0, 0, 0, 0, 0, 2, 0, 2, 2, 0, 1])]) (solo := [(2, 6)]) Try.func28 rfl (by kernel_rfl) (by kernel_rfl) (by kernel_rfl) hn (run_gp h))
def rc_p_unify_graph_alike : RC :=
 (.seq
 (.reg false [0, 1, 2] [
 oQ 6 (.mov (.c (.bool false)))])
 (.seq
 (.both [7, 8] [
 (0, oQ 9 (.mov (.t 0))), (0, oQ 10 (.nilck (.t 9))), (0, oQ 11 (.fptr 0 (.t 10))), (0, oQ 12 (.load false 1 (.t 11))), (0, oQ 13 (.mov (.t 1))), (0, oQ 14 (.idx 5 (.t 12) (.t 13))), (0, oQ 15 (.fptr 0 (.t 14))), (0, oQ 16 (.load true 4 (.t 15))), (0, oQ 17 (.mov (.t 0))), (0, oQ 18 (.nilck (.t 17))), (0, oQ 19 (.fptr 0 (.t 18))), (0, oQ 20 (.lod 1 false 1 (.t 19))), (0, oQ 21 (.mov (.t 2))), (0, oQ 22 (.idx 5 (.t 20) (.t 21))), (0, oQ 23 (.fptr 0 (.t 22))), (0, oQ 24 (.more (.lde true 4) [(.t 23)]))] [
 (0, oQ 7 (.box (.c (.agg [(.int .i64 0), (.int .i64 0), (.str ⟨⟨[]⟩⟩), (.sl .full [])])))), (0, oQ 8 (.box (.c (.agg [(.int .i64 0), (.int .i64 0), (.str ⟨⟨[]⟩⟩), (.sl .full [])])))), (0, oN (.stn 1 4 (.t 7) (.t 16))), (0, oN (.store 4 (.t 8) (.t 24)))] [
 (0, oQ 8 (.box (.c (.agg [(.int .i64 0), (.int .i64 0), (.str ⟨⟨[]⟩⟩), (.sl .full [])])))), (0, oQ 7 (.box (.c (.agg [(.int .i64 0), (.int .i64 0), (.str ⟨⟨[]⟩⟩), (.sl .full [])])))), (0, oN (.stn 1 4 (.t 7) (.t 16))), (0, oN (.store 4 (.t 8) (.t 24)))])
 (.seq
 (.reg false [6] [
 oQ 25 (.fptr 0 (.t 7)), oQ 26 (.load false 1 (.t 25)), oQ 27 (.fptr 0 (.t 8)), oQ 28 (.load false 1 (.t 27)), oQ 29 (.bin .eql (.t 26) (.t 28)), oQ 30 (.mov (.t 29)), oG 31 30 true (.fptr 1 (.t 7)), oG 32 30 true (.load false 1 (.t 31)), oG 33 30 true (.fptr 1 (.t 8)), oG 34 30 true (.load false 1 (.t 33)), oG 35 30 true (.bin .eql (.t 32) (.t 34)), oQ 36 (.pick (.t 30) (.t 35) (.c (.bool false))), oQ 37 (.mov (.t 36)), oG 38 37 true (.fptr 2 (.t 7)), oG 39 37 true (.load false 1 (.t 38)), oG 40 37 true (.fptr 2 (.t 8)), oG 41 37 true (.load false 1 (.t 40)), oG 42 37 true (.bin .eql (.t 39) (.t 41)), oQ 43 (.pick (.t 37) (.t 42) (.c (.bool false))), oQ 44 (.mov (.t 43)), oG 45 44 true (.fptr 3 (.t 7)), oG 46 44 true (.load false 1 (.t 45)), oG 47 44 true (.len false (.t 46)), oG 48 44 true (.fptr 3 (.t 8)), oG 49 44 true (.load false 1 (.t 48)), oG 50 44 true (.len false (.t 49)), oG 51 44 true (.bin .eql (.t 47) (.t 50)), oQ 52 (.pick (.t 44) (.t 51) (.c (.bool false))), oQ 6 (.mov (.t 52))])
 .ret)))
theorem op_p_unify_graph_alike (hn : vals.length ≤ 53) (h : SP Try.prog true vals bs rc_p_unify_graph_alike [.slot 6] Q) : AM.Sem Try.prog 42 vals bs Q :=
 Sem.nrm (Sem.of (fn := Try.f42) (keeps := [(0, [0, 1, 2]), (1, [7, 8]), (2, [6]), (1000000, [9007, 8020, 24]), (4000001, [16, 17, 0, 1, 2, 3, 4, 5, 6, 7, 8, 9, 10, 11, 12, 13, 14, 15]), (5000001, [17, 18, 19]), (6000001, [16, 18, 19])]) (solo := []) Try.func42 rfl (by kernel_rfl) (by kernel_rfl) (by kernel_rfl) hn (run_gp h))
def rc_p_unify_graph_merge : RC :=
 (.seq
 (.reg false [0, 1, 2] [
 oQ 14 (.mov (.t 0)), oQ 15 (.nilck (.t 14)), oQ 16 (.fptr 2 (.t 15)), oQ 17 (.load false 1 (.t 16)), oQ 18 (.mov (.t 2)), oQ 19 (.mov (.t 1)), oQ 20 (.idx 1 (.t 17) (.t 18)), oN (.store 1 (.t 20) (.t 19))])
 (.seq
 (.seq
 (.reg false [0, 1, 2, 6, 7] [
 oQ 22 (.mov (.t 0)), oQ 23 (.nilck (.t 22)), oQ 24 (.fptr 3 (.t 23)), oQ 25 (.load false 1 (.t 24)), oQ 26 (.mov (.t 2)), oQ 27 (.eff (.getM true (.int .i64 0)) [(.t 25), (.t 26)]), oQ 21 (.mov (.t 27)), oQ 28 (.ext 0 (.t 21)), oQ 29 (.ext 1 (.t 21)), oQ 6 (.mov (.t 28)), oQ 7 (.mov (.t 29))])
 (.seq
 (.reg false [0, 1, 2, 6, 30] [
 oQ 30 (.mov (.t 7))])
 (.cond (.t 30)
 (.seq
 (.reg false [0, 1, 2, 6, 9] [
 oQ 32 (.mov (.t 0)), oQ 33 (.nilck (.t 32)), oQ 34 (.fptr 3 (.t 33)), oQ 35 (.load false 1 (.t 34)), oQ 36 (.mov (.t 1)), oQ 37 (.eff (.getM true (.int .i64 0)) [(.t 35), (.t 36)]), oQ 31 (.mov (.t 37)), oQ 38 (.ext 0 (.t 31)), oQ 39 (.ext 1 (.t 31)), oQ 8 (.mov (.t 38)), oQ 9 (.mov (.t 39))])
 (.seq
 (.reg false [0, 1, 2, 6, 41] [
 oQ 40 (.mov (.t 9)), oQ 41 (.un .not (.t 40))])
 (.cond (.t 41)
 (.reg false [0, 1, 2] [
 oQ 42 (.mov (.t 0)), oQ 43 (.nilck (.t 42)), oQ 44 (.fptr 3 (.t 43)), oQ 45 (.load false 1 (.t 44)), oQ 46 (.mov (.t 1)), oQ 47 (.mov (.t 6)), oN (.eff .setM [(.t 45), (.t 46), (.t 47)])])
 .skip)))
 .skip)))
 (.seq
 (.reg false [0, 1, 10, 11] [
 oQ 49 (.mov (.t 0)), oQ 50 (.nilck (.t 49)), oQ 51 (.fptr 4 (.t 50)), oQ 52 (.load false 1 (.t 51)), oQ 53 (.mov (.t 2)), oQ 54 (.eff (.getM true (.int .i64 0)) [(.t 52), (.t 53)]), oQ 48 (.mov (.t 54)), oQ 55 (.ext 0 (.t 48)), oQ 56 (.ext 1 (.t 48)), oQ 10 (.mov (.t 55)), oQ 11 (.mov (.t 56))])
 (.seq
 (.reg false [0, 1, 10, 57] [
 oQ 57 (.mov (.t 11))])
 (.cond (.t 57)
 (.seq
 (.reg false [0, 1, 10, 12, 13] [
 oQ 59 (.mov (.t 0)), oQ 60 (.nilck (.t 59)), oQ 61 (.fptr 4 (.t 60)), oQ 62 (.load false 1 (.t 61)), oQ 63 (.mov (.t 1)), oQ 64 (.eff (.getM true (.int .i64 0)) [(.t 62), (.t 63)]), oQ 58 (.mov (.t 64)), oQ 65 (.ext 0 (.t 58)), oQ 66 (.ext 1 (.t 58)), oQ 12 (.mov (.t 65)), oQ 13 (.mov (.t 66))])
 (.seq
 (.reg false [0, 1, 10, 73] [
 oQ 67 (.mov (.t 13)), oQ 68 (.un .not (.t 67)), oQ 69 (.mov (.t 68)), oG 70 69 false (.mov (.t 10)), oG 71 69 false (.mov (.t 12)), oG 72 69 false (.bin .lss (.t 70) (.t 71)), oQ 73 (.pick (.t 69) (.c (.bool true)) (.t 72))])
 (.cond (.t 73)
 (.reg false [] [
 oQ 74 (.mov (.t 0)), oQ 75 (.nilck (.t 74)), oQ 76 (.fptr 4 (.t 75)), oQ 77 (.load false 1 (.t 76)), oQ 78 (.mov (.t 1)), oQ 79 (.mov (.t 10)), oN (.eff .setM [(.t 77), (.t 78), (.t 79)])])
 .skip)))
 .skip)))))
theorem op_p_unify_graph_merge (hn : vals.length ≤ 80) (h : SP Try.prog true vals bs rc_p_unify_graph_merge [] Q) : AM.Sem Try.prog 43 vals bs Q :=
 Sem.nrm (Sem.of (fn := Try.f43) (keeps := [(0, [0, 1, 2]), (1, [0, 1, 2, 6, 7]), (2, [0, 1, 2, 6, 30]), (3, [0, 1, 2, 6, 9]), (4, [0, 1, 2, 6, 41]), (5, [0, 1, 2]), (6, [0, 1, 10, 11]), (7, [0, 1, 10, 57]), (8, [0, 1, 10, 12, 13]), (9, [0, 1, 10, 73]), (10, [])]) (solo := []) Try.func43 rfl (by kernel_rfl) (by kernel_rfl) (by kernel_rfl) hn (run_gp h))
def rc_p_unify_graph_solved : RC :=
 (.seq
 (.reg false [0] [
 oQ 2 (.mov (.c (.sl .full []))), oQ 3 (.mov (.c (.int .i64 0)))])
 (.seq
 (.reg false [0, 4] [
 oQ 15 (.eff .mkM []), oQ 4 (.mov (.t 15))])
 (.seq
 (.seq
 (.reg false [0, 4, 20, 21] [
 oQ 16 (.mov (.t 0)), oQ 17 (.nilck (.t 16)), oQ 18 (.fptr 0 (.t 17)), oQ 19 (.lod 1 false 1 (.t 18)), oQ 20 (.len false (.t 19)), oQ 21 (.mov (.c (.int .i64 0)))])
 (.block 0
 (.loop
 (.seq
 (.reg false [0, 4, 20, 21, 22] [
 oQ 22 (.bin .lss (.t 21) (.t 20))])
 (.seq
 (.cond (.t 22)
 .skip
 (.exit 0))
 (.seq
 (.block 1
 (.seq
 (.reg false [0, 4, 5, 20, 21] [
 oQ 23 (.mov (.t 21)), oQ 5 (.mov (.t 23))])
 (.seq
 (.reg false [0, 4, 7, 20, 21] [
 oQ 25 (.mov (.t 0)), oQ 26 (.mov (.t 0)), oQ 27 (.mov (.t 5)), oQ 28 (.call (.c (.fn (.func 41) [] [])) [(.t 26), (.t 27)]), oQ 29 (.mov (.t 4)), oQ 30 (.call (.c (.fn (.func 44) [] [])) [(.t 25), (.t 28), (.t 29)]), oQ 24 (.mov (.t 30)), oQ 31 (.ext 0 (.t 24)), oQ 32 (.ext 1 (.t 24)), oQ 6 (.box (.c (.agg [(.int .i64 0), (.int .i64 0)]))), oN (.store 2 (.t 6) (.t 31)), oQ 7 (.mov (.t 32))])
 (.seq
 (.reg false [0, 4, 20, 21, 34] [
 oQ 33 (.mov (.t 7)), oQ 34 (.un .not (.t 33))])
 (.cond (.t 34)
 (.seq
 (.reg false [2, 3] [
 oQ 2 (.mov (.c (.sl .full []))), oQ 3 (.mov (.c (.int .i64 13)))])
 .ret)
 .skip)))))
 (.reg false [0, 4, 20, 21] [
 oQ 35 (.bin .add (.t 21) (.c (.int .i64 1))), oQ 21 (.mov (.t 35))])))))))
 (.seq
 (.reg false [0, 8] [
 oQ 8 (.mov (.c (.sl .full [])))])
 (.seq
 (.seq
 (.reg false [0, 8, 41, 42, 43] [
 oQ 36 (.mov (.t 0)), oQ 37 (.nilck (.t 36)), oQ 38 (.fptr 1 (.t 37)), oQ 39 (.load false 1 (.t 38)), oQ 40 (.call (.c (.fn (.func 46) [] [])) [(.t 39)]), oQ 41 (.call (.c (.fn (.func 45) [] [])) [(.t 40)]), oQ 42 (.len false (.t 41)), oQ 43 (.mov (.c (.int .i64 0)))])
 (.block 2
 (.loop
 (.seq
 (.reg false [0, 8, 41, 42, 43, 44] [
 oQ 44 (.bin .lss (.t 43) (.t 42))])
 (.seq
 (.cond (.t 44)
 .skip
 (.exit 2))
 (.seq
 (.block 3
 (.seq
 (.reg false [0, 8, 10, 41, 42, 43] [
 oQ 45 (.idx 1 (.t 41) (.t 43)), oQ 46 (.load false 1 (.t 45)), oQ 10 (.mov (.t 46))])
 (.seq
 (.reg false [0, 8, 10, 11, 41, 42, 43] [
 oQ 47 (.mov (.t 0)), oQ 48 (.mov (.t 0)), oQ 49 (.nilck (.t 48)), oQ 50 (.fptr 1 (.t 49)), oQ 51 (.load false 1 (.t 50)), oQ 52 (.mov (.t 10)), oQ 53 (.eff (.getM false (.int .i64 0)) [(.t 51), (.t 52)]), oQ 54 (.call (.c (.fn (.func 41) [] [])) [(.t 47), (.t 53)]), oQ 11 (.mov (.t 54))])
 (.seq
 (.reg false [0, 8, 10, 11, 13, 41, 42, 43] [
 oQ 56 (.mov (.t 0)), oQ 57 (.nilck (.t 56)), oQ 58 (.fptr 3 (.t 57)), oQ 59 (.load false 1 (.t 58)), oQ 60 (.mov (.t 11)), oQ 61 (.eff (.getM true (.int .i64 0)) [(.t 59), (.t 60)]), oQ 55 (.mov (.t 61)), oQ 62 (.ext 0 (.t 55)), oQ 63 (.ext 1 (.t 55)), oQ 12 (.mov (.t 62)), oQ 13 (.mov (.t 63))])
 (.seq
 (.seq
 (.reg false [0, 8, 10, 11, 41, 42, 43, 75] [
 oQ 64 (.mov (.t 13)), oQ 65 (.un .not (.t 64)), oQ 66 (.mov (.t 65)), oG 67 66 true (.mov (.t 0)), oG 68 66 true (.nilck (.t 67)), oG 69 66 true (.fptr 4 (.t 68)), oG 70 66 true (.load false 1 (.t 69)), oG 71 66 true (.mov (.t 11)), oG 72 66 true (.eff (.getM false (.int .i64 0)) [(.t 70), (.t 71)]), oG 73 66 true (.mov (.t 10)), oG 74 66 true (.bin .eql (.t 72) (.t 73)), oQ 75 (.pick (.t 66) (.t 74) (.c (.bool false)))])
 (.cond (.t 75)
 (.exit 3)
 .skip))
 (.seq
 (.seq
 (.reg false [0, 8, 10, 11, 14, 41, 42, 43] [
 oQ 76 (.mov (.t 0)), oQ 77 (.nilck (.t 76)), oQ 78 (.fptr 5 (.t 77)), oQ 79 (.load false 1 (.t 78)), oQ 80 (.mov (.t 11)), oQ 81 (.eff (.getM false (.agg [(.int .i64 0), (.int .i64 0)])) [(.t 79), (.t 80)]), oQ 14 (.box (.c (.agg [(.int .i64 0), (.int .i64 0)]))), oN (.store 2 (.t 14) (.t 81))])
 (.seq
 (.reg false [0, 8, 10, 11, 41, 42, 43, 89] [
 oQ 82 (.fptr 0 (.t 14)), oQ 83 (.load false 1 (.t 82)), oQ 84 (.bin .gtr (.t 83) (.c (.int .i64 200))), oQ 85 (.mov (.t 84)), oG 86 85 false (.fptr 1 (.t 14)), oG 87 85 false (.load false 1 (.t 86)), oG 88 85 false (.bin .gtr (.t 87) (.c (.int .i64 20))), oQ 89 (.pick (.t 85) (.c (.bool true)) (.t 88))])
 (.cond (.t 89)
 (.seq
 (.reg false [2, 3] [
 oQ 2 (.mov (.c (.sl .full []))), oQ 3 (.mov (.c (.int .i64 6)))])
 .ret)
 .skip)))
 (.reg false [0, 8, 41, 42, 43] [
 oQ 90 (.mov (.t 8)), oQ 91 (.mov (.t 10)), oQ 92 (.mov (.t 0)), oQ 93 (.mov (.t 11)), oQ 94 (.call (.c (.fn (.func 47) [] [])) [(.t 92), (.t 93)]), oQ 95 (.build [(.int .i64 0), (.int .i64 0), (.int .i64 0), (.str ⟨⟨[]⟩⟩), (.sl .full [])] [(0, 1, (.t 91)), (1, 4, (.t 94))]), oQ 96 (.bslice 5 [(.t 95)]), oQ 97 (.append 5 (.t 90) (.t 96)), oQ 8 (.mov (.t 97))])))))))
 (.reg false [0, 8, 41, 42, 43] [
 oQ 98 (.bin .add (.t 43) (.c (.int .i64 1))), oQ 43 (.mov (.t 98))])))))))
 (.seq
 (.reg false [2, 3] [
 oQ 99 (.mov (.t 8)), oQ 2 (.mov (.t 99)), oQ 3 (.mov (.c (.int .i64 0)))])
 .ret))))))
theorem op_p_unify_graph_solved (hn : vals.length ≤ 100) (h : SP Try.prog true vals bs rc_p_unify_graph_solved [.slot 2, .slot 3] Q) : AM.Sem Try.prog 29 vals bs Q :=
 Sem.nrm (Sem.of (fn := Try.f29) (keeps := [(0, [0]), (1, [0, 4]), (2, [0, 4, 20, 21]), (3, [0, 4, 20, 21, 22]), (4, [0, 4, 5, 20, 21]), (5, [0, 4, 7, 20, 21]), (6, [0, 4, 20, 21, 34]), (7, [2, 3]), (8, [0, 4, 20, 21]), (9, [0, 8]), (10, [0, 8, 41, 42, 43]), (11, [0, 8, 41, 42, 43, 44]), (12, [0, 8, 10, 41, 42, 43]), (13, [0, 8, 10, 11, 41, 42, 43]), (14, [0, 8, 10, 11, 13, 41, 42, 43]), (15, [0, 8, 10, 11, 41, 42, 43, 75]), (16, [0, 8, 10, 11, 14, 41, 42, 43]), (17, [0, 8, 10, 11, 41, 42, 43, 89]), (18, [2, 3]), (19, [0, 8, 41, 42, 43]), (20, [0, 8, 41, 42, 43]), (21, [2, 3]), (1000000, [8019])]) (solo := []) Try.func29 rfl (by kernel_rfl) (by kernel_rfl) (by kernel_rfl) hn (run_gp h))
def rc_p_unify_graph_expand : RC :=
 (.seq
 (.reg false [0, 1, 4] [
 oQ 4 (.box (.c (.agg [(.int .i64 0), (.int .i64 0), (.str ⟨⟨[]⟩⟩), (.sl .full [])])))])
 (.seq
 (.reg false [0, 1, 4, 5, 6] [
 oQ 12 (.mov (.t 0)), oQ 13 (.nilck (.t 12)), oQ 14 (.fptr 3 (.t 13)), oQ 15 (.load false 1 (.t 14)), oQ 16 (.mov (.t 1)), oQ 17 (.eff (.getM true (.int .i64 0)) [(.t 15), (.t 16)]), oQ 11 (.mov (.t 17)), oQ 18 (.ext 0 (.t 11)), oQ 19 (.ext 1 (.t 11)), oQ 5 (.mov (.t 18)), oQ 6 (.mov (.t 19))])
 (.seq
 (.seq
 (.reg false [0, 1, 4, 5, 21] [
 oQ 20 (.mov (.t 6)), oQ 21 (.un .not (.t 20))])
 (.cond (.t 21)
 (.seq
 (.reg false [4] [
 oQ 22 (.mov (.t 0)), oQ 23 (.nilck (.t 22)), oQ 24 (.fptr 4 (.t 23)), oQ 25 (.load false 1 (.t 24)), oQ 26 (.mov (.t 1)), oQ 27 (.eff (.getM false (.int .i64 0)) [(.t 25), (.t 26)]), oQ 28 (.call (.c (.fn (.func 67) [] [])) [(.t 27)]), oN (.store 4 (.t 4) (.t 28))])
 .ret)
 .skip))
 (.seq
 (.reg false [0, 4, 5, 7] [
 oQ 29 (.mov (.t 0)), oQ 30 (.nilck (.t 29)), oQ 31 (.fptr 0 (.t 30)), oQ 32 (.lod 1 false 1 (.t 31)), oQ 33 (.mov (.t 5)), oQ 34 (.idx 5 (.t 32) (.t 33)), oQ 35 (.fptr 0 (.t 34)), oQ 36 (.load true 4 (.t 35)), oQ 7 (.box (.c (.agg [(.int .i64 0), (.int .i64 0), (.str ⟨⟨[]⟩⟩), (.sl .full [])]))), oN (.store 4 (.t 7) (.t 36))])
 (.seq
 (.seq
 (.reg false [0, 4, 5, 7, 40] [
 oQ 37 (.fptr 3 (.t 7)), oQ 38 (.load false 1 (.t 37)), oQ 39 (.len false (.t 38)), oQ 40 (.bin .eql (.t 39) (.c (.int .i64 0)))])
 (.cond (.t 40)
 (.seq
 (.reg false [4] [
 oQ 41 (.load true 4 (.t 7)), oN (.store 4 (.t 4) (.t 41))])
 .ret)
 .skip))
 (.seq
 (.reg false [0, 4, 5, 7, 8] [
 oQ 42 (.fptr 3 (.t 7)), oQ 43 (.load false 1 (.t 42)), oQ 44 (.len false (.t 43)), oQ 45 (.eff (.mkB 4 (.agg [(.int .i64 0), (.int .i64 0), (.str ⟨⟨[]⟩⟩), (.sl .full [])])) [(.t 44), (.t 44)]), oQ 8 (.mov (.t 45))])
 (.seq
 (.seq
 (.reg false [0, 4, 7, 8, 53, 54, 55] [
 oQ 46 (.mov (.t 0)), oQ 47 (.nilck (.t 46)), oQ 48 (.fptr 0 (.t 47)), oQ 49 (.lod 1 false 1 (.t 48)), oQ 50 (.mov (.t 5)), oQ 51 (.idx 5 (.t 49) (.t 50)), oQ 52 (.fptr 4 (.t 51)), oQ 53 (.load false 1 (.t 52)), oQ 54 (.len false (.t 53)), oQ 55 (.mov (.c (.int .i64 0)))])
 (.block 0
 (.loop
 (.seq
 (.reg false [0, 4, 7, 8, 53, 54, 55, 56] [
 oQ 56 (.bin .lss (.t 55) (.t 54))])
 (.seq
 (.cond (.t 56)
 .skip
 (.exit 0))
 (.seq
 (.block 1
 (.seq
 (.reg false [0, 4, 7, 8, 9, 10, 53, 54, 55] [
 oQ 57 (.mov (.t 55)), oQ 58 (.idx 1 (.t 53) (.t 55)), oQ 59 (.load false 1 (.t 58)), oQ 9 (.mov (.t 57)), oQ 10 (.mov (.t 59))])
 (.reg false [0, 4, 7, 8, 53, 54, 55] [
 oQ 60 (.mov (.t 8)), oQ 61 (.mov (.t 9)), oQ 62 (.mov (.t 0)), oQ 63 (.mov (.t 0)), oQ 64 (.mov (.t 10)), oQ 65 (.call (.c (.fn (.func 41) [] [])) [(.t 63), (.t 64)]), oQ 66 (.call (.c (.fn (.func 47) [] [])) [(.t 62), (.t 65)]), oQ 67 (.idx 4 (.t 60) (.t 61)), oN (.store 4 (.t 67) (.t 66))])))
 (.reg false [0, 4, 7, 8, 53, 54, 55] [
 oQ 68 (.bin .add (.t 55) (.c (.int .i64 1))), oQ 55 (.mov (.t 68))])))))))
 (.seq
 (.reg false [4, 7] [
 oQ 69 (.mov (.t 8)), oQ 70 (.fptr 3 (.t 7)), oN (.store 1 (.t 70) (.t 69))])
 (.seq
 (.reg false [4] [
 oQ 71 (.load true 4 (.t 7)), oN (.store 4 (.t 4) (.t 71))])
 .ret)))))))))
theorem op_p_unify_graph_expand (hn : vals.length ≤ 72) (h : SP Try.prog true vals bs rc_p_unify_graph_expand [.cell 4 true 4] Q) : AM.Sem Try.prog 47 vals bs Q :=
 Sem.nrm (Sem.of (fn := Try.f47) (keeps := [(0, [0, 1, 4]), (1, [0, 1, 4, 5, 6]), (2, [0, 1, 4, 5, 21]), (3, [4]), (4, [0, 4, 5, 7]), (5, [0, 4, 5, 7, 40]), (6, [4]), (7, [0, 4, 5, 7, 8]), (8, [0, 4, 7, 8, 53, 54, 55]), (9, [0, 4, 7, 8, 53, 54, 55, 56]), (10, [0, 4, 7, 8, 9, 10, 53, 54, 55]), (11, [0, 4, 7, 8, 53, 54, 55]), (12, [0, 4, 7, 8, 53, 54, 55]), (13, [4, 7]), (14, [4]), (1000000, [45, 8032, 8049])]) (solo := []) Try.func47 rfl (by kernel_rfl) (by kernel_rfl) (by kernel_rfl) hn (run_gp h))
def rc_maps_Keys_map_int_int_int_int : RC :=
 (.seq
 (.reg false [1] [
 oQ 1 (.box (.t 0)), oQ 2 (.mov (.c .nfn))])
 (.seq
 (.reg false [2] [
 oQ 3 (.mkfn (.func 66) [] [(.t 1)]), oQ 2 (.mov (.t 3))])
 .ret))
theorem op_maps_Keys_map_int_int_int_int (hn : vals.length ≤ 4) (h : SP Try.prog true vals bs rc_maps_Keys_map_int_int_int_int [.slot 2] Q) : AM.Sem Try.prog 46 vals bs Q :=
 Sem.nrm (Sem.of (fn := Try.f46) (keeps := [(0, [1]), (1, [2])]) (solo := []) Try.func46 rfl (by kernel_rfl) (by kernel_rfl) (by kernel_rfl) hn (run_gp h))
def rc_slices_ContainsFunc_api_Term_api_Term : RC :=
 (.seq
 (.reg false [0, 1] [
 oQ 4 (.mov (.c (.bool false)))])
 (.seq
 (.reg false [4] [
 oQ 5 (.mov (.t 0)), oQ 6 (.mov (.t 1)), oQ 7 (.call (.c (.fn (.func 62) [] [])) [(.t 5), (.t 6)]), oQ 8 (.bin .geq (.t 7) (.c (.int .i64 0))), oQ 4 (.mov (.t 8))])
 .ret))
theorem op_slices_ContainsFunc_api_Term_api_Term (hn : vals.length ≤ 9) (h : SP Try.prog true vals bs rc_slices_ContainsFunc_api_Term_api_Term [.slot 4] Q) : AM.Sem Try.prog 38 vals bs Q :=
 Sem.nrm (Sem.of (fn := Try.f38) (keeps := [(0, [0, 1]), (1, [4])]) (solo := []) Try.func38 rfl (by kernel_rfl) (by kernel_rfl) (by kernel_rfl) hn (run_gp h))
def rc_slices_IndexFunc_api_Term_api_Term : RC :=
 (.seq
 (.reg false [0, 1] [
 oQ 4 (.mov (.c (.int .i64 0)))])
 (.seq
 (.seq
 (.reg false [0, 1, 7, 8] [
 oQ 6 (.mov (.t 0)), oQ 7 (.len false (.t 6)), oQ 8 (.mov (.c (.int .i64 0)))])
 (.block 0
 (.loop
 (.seq
 (.reg false [0, 1, 7, 8, 9] [
 oQ 9 (.bin .lss (.t 8) (.t 7))])
 (.seq
 (.cond (.t 9)
 .skip
 (.exit 0))
 (.seq
 (.block 1
 (.seq
 (.reg false [0, 1, 5, 7, 8] [
 oQ 10 (.mov (.t 8)), oQ 5 (.mov (.t 10))])
 (.seq
 (.reg false [0, 1, 5, 7, 8, 16] [
 oQ 11 (.mov (.t 1)), oQ 12 (.mov (.t 0)), oQ 13 (.mov (.t 5)), oQ 14 (.idx 4 (.t 12) (.t 13)), oQ 15 (.load true 4 (.t 14)), oQ 16 (.callv (.t 11) [(.t 15)])])
 (.cond (.t 16)
 (.seq
 (.reg false [4] [
 oQ 17 (.mov (.t 5)), oQ 4 (.mov (.t 17))])
 .ret)
 .skip))))
 (.reg false [0, 1, 7, 8] [
 oQ 18 (.bin .add (.t 8) (.c (.int .i64 1))), oQ 8 (.mov (.t 18))])))))))
 (.seq
 (.reg false [4] [
 oQ 4 (.mov (.c (.int .i64 (-1))))])
 .ret)))
theorem op_slices_IndexFunc_api_Term_api_Term (hn : vals.length ≤ 19) (h : SP Try.prog true vals bs rc_slices_IndexFunc_api_Term_api_Term [.slot 4] Q) : AM.Sem Try.prog 62 vals bs Q :=
 Sem.nrm (Sem.of (fn := Try.f62) (keeps := [(0, [0, 1]), (1, [0, 1, 7, 8]), (2, [0, 1, 7, 8, 9]), (3, [0, 1, 5, 7, 8]), (4, [0, 1, 5, 7, 8, 16]), (5, [4]), (6, [0, 1, 7, 8]), (7, [4])]) (solo := []) Try.func62 rfl (by kernel_rfl) (by kernel_rfl) (by kernel_rfl) hn (run_gp h))
def rc_term_Right : RC :=
 (.seq
 (.reg false [1] [
 oQ 1 (.box (.t 0)), oQ 2 (.mov (.c (.bool false)))])
 (.seq
 (.reg false [1, 3] [
 oQ 4 (.build [(.int .i64 0)] [(0, 1, (.c (.int .i64 200)))]), oQ 5 (.box (.t 4)), oQ 3 (.mov (.t 5))])
 (.seq
 (.reg false [2] [
 oQ 6 (.mov (.t 3)), oQ 7 (.load true 4 (.t 1)), oQ 8 (.call (.c (.fn (.func 63) [] [])) [(.t 6), (.t 7), (.c (.int .i64 20))]), oQ 2 (.mov (.t 8))])
 .ret)))
theorem op_term_Right (hn : vals.length ≤ 9) (h : SP Try.prog true vals bs rc_term_Right [.slot 2] Q) : AM.Sem Try.prog 40 vals bs Q :=
 Sem.nrm (Sem.of (fn := Try.f40) (keeps := [(0, [1]), (1, [1, 3]), (2, [2])]) (solo := []) Try.func40 rfl (by kernel_rfl) (by kernel_rfl) (by kernel_rfl) hn (run_gp h))
def rc_term_Var : RC :=
 (.seq
 (.reg false [0, 2] [
 oQ 2 (.box (.c (.agg [(.int .i64 0), (.int .i64 0), (.str ⟨⟨[]⟩⟩), (.sl .full [])])))])
 (.seq
 (.reg false [2] [
 oQ 3 (.mov (.t 0)), oQ 4 (.build [(.int .i64 0), (.int .i64 0), (.str ⟨⟨[]⟩⟩), (.sl .full [])] [(0, 1, (.c (.int .i64 1))), (1, 1, (.t 3))]), oN (.store 4 (.t 2) (.t 4))])
 .ret))
theorem op_term_Var (hn : vals.length ≤ 5) (h : SP Try.prog true vals bs rc_term_Var [.cell 2 true 4] Q) : AM.Sem Try.prog 67 vals bs Q :=
 Sem.nrm (Sem.of (fn := Try.f67) (keeps := [(0, [0, 2]), (1, [2])]) (solo := []) Try.func67 rfl (by kernel_rfl) (by kernel_rfl) (by kernel_rfl) hn (run_gp h))
def rc_p_term_budget_valid : RC :=
 (.seq
 (.reg false [0, 2, 4] [
 oQ 4 (.box (.t 1)), oQ 6 (.mov (.c (.bool false)))])
 (.seq
 (.reg false [0, 2, 4] [
 oQ 7 (.mov (.t 0)), oQ 8 (.nilck (.t 7)), oQ 9 (.fptr 0 (.t 8)), oQ 10 (.load false 1 (.t 9)), oQ 11 (.bin .sub (.t 10) (.c (.int .i64 1))), oQ 12 (.nilck (.t 7)), oQ 13 (.fptr 0 (.t 12)), oN (.store 1 (.t 13) (.t 11))])
 (.seq
 (.seq
 (.reg false [0, 2, 4, 22] [
 oQ 14 (.mov (.t 0)), oQ 15 (.nilck (.t 14)), oQ 16 (.fptr 0 (.t 15)), oQ 17 (.load false 1 (.t 16)), oQ 18 (.bin .lss (.t 17) (.c (.int .i64 0))), oQ 19 (.mov (.t 18)), oG 20 19 false (.mov (.t 2)), oG 21 19 false (.bin .lss (.t 20) (.c (.int .i64 1))), oQ 22 (.pick (.t 19) (.c (.bool true)) (.t 21))])
 (.cond (.t 22)
 (.seq
 (.reg false [6] [
 oQ 6 (.mov (.c (.bool false)))])
 .ret)
 .skip))
 (.seq
 (.seq
 (.reg false [0, 2, 4, 24] [
 oQ 23 (.fptr 0 (.t 4)), oQ 24 (.load false 1 (.t 23))])
 (.block 0
 (.seq
 (.reg false [0, 2, 4, 24, 25] [
 oQ 26 (.bin .eql (.t 24) (.c (.int .i64 0))), oQ 25 (.mov (.t 26))])
 (.cond (.t 25)
 (.seq
 (.reg false [6] [
 oQ 27 (.fptr 1 (.t 4)), oQ 28 (.load false 1 (.t 27)), oQ 29 (.bin .geq (.t 28) (.c (.int .i64 (-2147483648)))), oQ 30 (.mov (.t 29)), oG 31 30 true (.fptr 1 (.t 4)), oG 32 30 true (.load false 1 (.t 31)), oG 33 30 true (.bin .leq (.t 32) (.c (.int .i64 2147483648))), oQ 34 (.pick (.t 30) (.t 33) (.c (.bool false))), oQ 35 (.mov (.t 34)), oG 36 35 true (.fptr 2 (.t 4)), oG 37 35 true (.load false 1 (.t 36)), oG 38 35 true (.bin .eql (.t 37) (.c (.str ⟨⟨[]⟩⟩))), oQ 39 (.pick (.t 35) (.t 38) (.c (.bool false))), oQ 40 (.mov (.t 39)), oG 41 40 true (.fptr 3 (.t 4)), oG 42 40 true (.load false 1 (.t 41)), oG 43 40 true (.len false (.t 42)), oG 44 40 true (.bin .eql (.t 43) (.c (.int .i64 0))), oQ 45 (.pick (.t 40) (.t 44) (.c (.bool false))), oQ 6 (.mov (.t 45))])
 .ret)
 (.seq
 (.reg false [0, 2, 4, 24, 46] [
 oQ 47 (.bin .eql (.t 24) (.c (.int .i64 1))), oQ 46 (.mov (.t 47))])
 (.cond (.t 46)
 (.seq
 (.reg false [6] [
 oQ 48 (.fptr 1 (.t 4)), oQ 49 (.load false 1 (.t 48)), oQ 50 (.bin .geq (.t 49) (.c (.int .i64 0))), oQ 51 (.mov (.t 50)), oG 52 51 true (.fptr 1 (.t 4)), oG 53 51 true (.load false 1 (.t 52)), oG 54 51 true (.bin .leq (.t 53) (.c (.int .i64 1048576))), oQ 55 (.pick (.t 51) (.t 54) (.c (.bool false))), oQ 56 (.mov (.t 55)), oG 57 56 true (.fptr 2 (.t 4)), oG 58 56 true (.load false 1 (.t 57)), oG 59 56 true (.bin .eql (.t 58) (.c (.str ⟨⟨[]⟩⟩))), oQ 60 (.pick (.t 56) (.t 59) (.c (.bool false))), oQ 61 (.mov (.t 60)), oG 62 61 true (.fptr 3 (.t 4)), oG 63 61 true (.load false 1 (.t 62)), oG 64 61 true (.len false (.t 63)), oG 65 61 true (.bin .eql (.t 64) (.c (.int .i64 0))), oQ 66 (.pick (.t 61) (.t 65) (.c (.bool false))), oQ 6 (.mov (.t 66))])
 .ret)
 (.seq
 (.reg false [0, 2, 4, 67] [
 oQ 68 (.bin .eql (.t 24) (.c (.int .i64 2))), oQ 67 (.mov (.t 68))])
 (.cond (.t 67)
 (.seq
 (.seq
 (.reg false [0, 2, 4, 77] [
 oQ 69 (.fptr 1 (.t 4)), oQ 70 (.load false 1 (.t 69)), oQ 71 (.bin .neq (.t 70) (.c (.int .i64 0))), oQ 72 (.mov (.t 71)), oG 73 72 false (.fptr 3 (.t 4)), oG 74 72 false (.load false 1 (.t 73)), oG 75 72 false (.len false (.t 74)), oG 76 72 false (.bin .gtr (.t 75) (.c (.int .i64 6))), oQ 77 (.pick (.t 72) (.c (.bool true)) (.t 76))])
 (.cond (.t 77)
 (.seq
 (.reg false [6] [
 oQ 6 (.mov (.c (.bool false)))])
 .ret)
 .skip))
 (.seq
 (.seq
 (.reg false [0, 2, 4, 93] [
 oQ 78 (.fptr 2 (.t 4)), oQ 79 (.load false 1 (.t 78)), oQ 80 (.call (.c (.fn (.func 72) [] [])) [(.t 79)]), oQ 81 (.un .not (.t 80)), oQ 82 (.mov (.t 81)), oG 83 82 true (.fptr 2 (.t 4)), oG 84 82 true (.load false 1 (.t 83)), oG 85 82 true (.call (.c (.fn (.func 73) [] [])) [(.t 84)]), oG 86 82 true (.mov (.t 85)), oG 87 86 true (.fptr 3 (.t 4)), oG 88 86 true (.load false 1 (.t 87)), oG 89 86 true (.len false (.t 88)), oG 90 86 true (.bin .eql (.t 89) (.c (.int .i64 2))), oG 91 82 true (.pick (.t 86) (.t 90) (.c (.bool false))), oG 92 82 true (.un .not (.t 91)), oQ 93 (.pick (.t 82) (.t 92) (.c (.bool false)))])
 (.cond (.t 93)
 (.seq
 (.reg false [6] [
 oQ 6 (.mov (.c (.bool false)))])
 .ret)
 .skip))
 (.seq
 (.reg false [6] [
 oQ 94 (.mov (.t 0)), oQ 95 (.fptr 3 (.t 4)), oQ 96 (.load false 1 (.t 95)), oQ 97 (.mov (.t 2)), oQ 98 (.bin .sub (.t 97) (.c (.int .i64 1))), oQ 99 (.call (.c (.fn (.func 74) [] [])) [(.t 94), (.t 96), (.t 98)]), oQ 6 (.mov (.t 99))])
 .ret)))
 .skip))))))))
 (.seq
 (.reg false [6] [
 oQ 6 (.mov (.c (.bool false)))])
 .ret)))))
theorem op_p_term_budget_valid (hn : vals.length ≤ 100) (h : SP Try.prog true vals bs rc_p_term_budget_valid [.slot 6] Q) : AM.Sem Try.prog 63 vals bs Q :=
 Sem.nrm (Sem.of (fn := Try.f63) (keeps := [(0, [0, 2, 4]), (1, [0, 2, 4]), (2, [0, 2, 4, 22]), (3, [6]), (4, [0, 2, 4, 24]), (5, [0, 2, 4, 24, 25]), (7, [0, 2, 4, 24, 46]), (9, [0, 2, 4, 67]), (10, [0, 2, 4, 77]), (11, [6]), (12, [0, 2, 4, 93]), (13, [6]), (14, [6]), (8, [6]), (6, [6]), (15, [6])]) (solo := []) Try.func63 rfl (by kernel_rfl) (by kernel_rfl) (by kernel_rfl) hn (run_gp h))
def rc_p_term_budget_all : RC :=
 (.seq
 (.reg false [0, 1, 2] [
 oQ 6 (.mov (.c (.bool false)))])
 (.seq
 (.seq
 (.reg false [0, 1, 2, 9, 10] [
 oQ 8 (.mov (.t 1)), oQ 9 (.len false (.t 8)), oQ 10 (.mov (.c (.int .i64 0)))])
 (.block 0
 (.loop
 (.seq
 (.reg false [0, 1, 2, 9, 10, 11] [
 oQ 11 (.bin .lss (.t 10) (.t 9))])
 (.seq
 (.cond (.t 11)
 .skip
 (.exit 0))
 (.seq
 (.block 1
 (.seq
 (.reg false [0, 1, 2, 7, 9, 10] [
 oQ 12 (.mov (.t 10)), oQ 7 (.mov (.t 12))])
 (.seq
 (.reg false [0, 1, 2, 9, 10, 20] [
 oQ 13 (.mov (.t 0)), oQ 14 (.mov (.t 1)), oQ 15 (.mov (.t 7)), oQ 16 (.idx 4 (.t 14) (.t 15)), oQ 17 (.load true 4 (.t 16)), oQ 18 (.mov (.t 2)), oQ 19 (.call (.c (.fn (.func 63) [] [])) [(.t 13), (.t 17), (.t 18)]), oQ 20 (.un .not (.t 19))])
 (.cond (.t 20)
 (.seq
 (.reg false [6] [
 oQ 6 (.mov (.c (.bool false)))])
 .ret)
 .skip))))
 (.reg false [0, 1, 2, 9, 10] [
 oQ 21 (.bin .add (.t 10) (.c (.int .i64 1))), oQ 10 (.mov (.t 21))])))))))
 (.seq
 (.reg false [6] [
 oQ 6 (.mov (.c (.bool true)))])
 .ret)))
theorem op_p_term_budget_all (hn : vals.length ≤ 22) (h : SP Try.prog true vals bs rc_p_term_budget_all [.slot 6] Q) : AM.Sem Try.prog 74 vals bs Q :=
 Sem.nrm (Sem.of (fn := Try.f74) (keeps := [(0, [0, 1, 2]), (1, [0, 1, 2, 9, 10]), (2, [0, 1, 2, 9, 10, 11]), (3, [0, 1, 2, 7, 9, 10]), (4, [0, 1, 2, 9, 10, 20]), (5, [6]), (6, [0, 1, 2, 9, 10]), (7, [6])]) (solo := []) Try.func74 rfl (by kernel_rfl) (by kernel_rfl) (by kernel_rfl) hn (run_gp h))
def rc_name_Right : RC :=
 (.seq
 (.reg false [0] [
 oQ 2 (.mov (.c (.bool false)))])
 (.seq
 (.reg false [2] [
 oQ 3 (.mov (.t 0)), oQ 4 (.call (.c (.fn (.func 80) [] [])) [(.t 3), (.c (.int .u8 1))]), oQ 5 (.mov (.t 4)), oG 6 5 true (.mov (.t 0)), oG 7 5 true (.call (.c (.fn (.func 81) [] [])) [(.t 6)]), oG 8 5 true (.un .not (.t 7)), oQ 9 (.pick (.t 5) (.t 8) (.c (.bool false))), oQ 2 (.mov (.t 9))])
 .ret))
theorem op_name_Right (hn : vals.length ≤ 10) (h : SP Try.prog true vals bs rc_name_Right [.slot 2] Q) : AM.Sem Try.prog 72 vals bs Q :=
 Sem.nrm (Sem.of (fn := Try.f72) (keeps := [(0, [0]), (1, [2])]) (solo := []) Try.func72 rfl (by kernel_rfl) (by kernel_rfl) (by kernel_rfl) hn (run_gp h))
def rc_name_Operator : RC :=
 (.seq
 (.reg false [0] [
 oQ 2 (.mov (.c (.bool false)))])
 (.seq
 (.reg false [2] [
 oQ 3 (.mov (.t 0)), oQ 4 (.len true (.t 3)), oQ 5 (.bin .eql (.t 4) (.c (.int .i64 1))), oQ 6 (.mov (.t 5)), oG 7 6 true (.mov (.t 0)), oG 8 6 true (.call (.c (.fn (.func 82) [] [])) [(.c (.str ⟨⟨[43, 45, 42, 47, 37]⟩⟩)), (.t 7)]), oQ 9 (.pick (.t 6) (.t 8) (.c (.bool false))), oQ 2 (.mov (.t 9))])
 .ret))
theorem op_name_Operator (hn : vals.length ≤ 10) (h : SP Try.prog true vals bs rc_name_Operator [.slot 2] Q) : AM.Sem Try.prog 73 vals bs Q :=
 Sem.nrm (Sem.of (fn := Try.f73) (keeps := [(0, [0]), (1, [2])]) (solo := []) Try.func73 rfl (by kernel_rfl) (by kernel_rfl) (by kernel_rfl) hn (run_gp h))
def rc_name_Reserved : RC :=
 (.seq
 (.reg false [0] [
 oQ 2 (.mov (.c (.bool false)))])
 (.seq
 (.seq
 (.reg false [3] [
 oQ 3 (.mov (.t 0))])
 (.block 0
 (.seq
 (.seq
 (.reg false [3, 4] [
 oQ 5 (.bin .eql (.t 3) (.c (.str ⟨⟨[99, 111, 110, 115, 116, 114, 97, 105, 110, 116]⟩⟩))), oQ 4 (.mov (.t 5))])
 (.cond (.t 4)
 .skip
 (.seq
 (.reg false [3, 4] [
 oQ 6 (.bin .eql (.t 3) (.c (.str ⟨⟨[116, 114, 117, 101]⟩⟩))), oQ 4 (.mov (.t 6))])
 (.cond (.t 4)
 .skip
 (.seq
 (.reg false [3, 4] [
 oQ 7 (.bin .eql (.t 3) (.c (.str ⟨⟨[102, 97, 105, 108]⟩⟩))), oQ 4 (.mov (.t 7))])
 (.cond (.t 4)
 .skip
 (.seq
 (.reg false [3, 4] [
 oQ 8 (.bin .eql (.t 3) (.c (.str ⟨⟨[105, 115]⟩⟩))), oQ 4 (.mov (.t 8))])
 (.cond (.t 4)
 .skip
 (.seq
 (.reg false [3, 4] [
 oQ 9 (.bin .eql (.t 3) (.c (.str ⟨⟨[105, 110, 116]⟩⟩))), oQ 4 (.mov (.t 9))])
 (.cond (.t 4)
 .skip
 (.reg false [4] [
 oQ 10 (.bin .eql (.t 3) (.c (.str ⟨⟨[103, 114, 111, 117, 110, 100]⟩⟩))), oQ 4 (.mov (.t 10))])))))))))))
 (.cond (.t 4)
 (.seq
 (.reg false [2] [
 oQ 2 (.mov (.c (.bool true)))])
 .ret)
 .skip))))
 (.seq
 (.reg false [2] [
 oQ 2 (.mov (.c (.bool false)))])
 .ret)))
theorem op_name_Reserved (hn : vals.length ≤ 11) (h : SP Try.prog true vals bs rc_name_Reserved [.slot 2] Q) : AM.Sem Try.prog 81 vals bs Q :=
 Sem.nrm (Sem.of (fn := Try.f81) (keeps := [(0, [0]), (1, [3]), (2, [3, 4]), (3, [3, 4]), (4, [3, 4]), (5, [3, 4]), (6, [3, 4]), (7, [4]), (8, [2]), (9, [2])]) (solo := []) Try.func81 rfl (by kernel_rfl) (by kernel_rfl) (by kernel_rfl) hn (run_gp h))
def rc_constraintref06_Same : RC :=
 (.seq
 (.reg false [0, 1] [
 oQ 4 (.mov (.c (.bool false)))])
 (.seq
 (.seq
 (.reg false [0, 1, 10] [
 oQ 6 (.mov (.t 0)), oQ 7 (.len false (.t 6)), oQ 8 (.mov (.t 1)), oQ 9 (.len false (.t 8)), oQ 10 (.bin .neq (.t 7) (.t 9))])
 (.cond (.t 10)
 (.seq
 (.reg false [4] [
 oQ 4 (.mov (.c (.bool false)))])
 .ret)
 .skip))
 (.seq
 (.seq
 (.reg false [0, 1, 5] [
 oQ 5 (.mov (.c (.int .i64 0)))])
 (.block 0
 (.loop
 (.seq
 (.seq
 (.reg false [0, 1, 5, 20] [
 oQ 11 (.mov (.t 5)), oQ 12 (.mov (.t 0)), oQ 13 (.len false (.t 12)), oQ 14 (.bin .lss (.t 11) (.t 13)), oQ 15 (.mov (.t 14)), oG 16 15 true (.mov (.t 5)), oG 17 15 true (.mov (.t 1)), oG 18 15 true (.len false (.t 17)), oG 19 15 true (.bin .lss (.t 16) (.t 18)), oQ 20 (.pick (.t 15) (.t 19) (.c (.bool false)))])
 (.cond (.t 20)
 .skip
 (.exit 0)))
 (.seq
 (.block 1
 (.seq
 (.reg true [0, 1, 5, 47] [
 oQ 23 (.mov (.t 0)), oQ 24 (.mov (.t 5)), oQ 25 (.idx 5 (.t 23) (.t 24)), oQ 26 (.fptr 0 (.t 25)), oQ 27 (.load false 1 (.t 26)), oQ 28 (.mov (.t 1)), oQ 29 (.mov (.t 5)), oQ 30 (.idx 5 (.t 28) (.t 29)), oQ 31 (.fptr 0 (.t 30)), oQ 32 (.load false 1 (.t 31)), oQ 33 (.bin .neq (.t 27) (.t 32)), oQ 34 (.mov (.t 33)), oG 35 34 false (.mov (.t 0)), oG 36 34 false (.mov (.t 5)), oG 37 34 false (.idx 5 (.t 35) (.t 36)), oG 38 34 false (.fptr 1 (.t 37)), oG 39 34 false (.load true 4 (.t 38)), oG 40 34 false (.mov (.t 1)), oG 41 34 false (.mov (.t 5)), oG 42 34 false (.idx 5 (.t 40) (.t 41)), oG 43 34 false (.fptr 1 (.t 42)), oG 44 34 false (.load true 4 (.t 43)), oG 45 34 false (.call (.c (.fn (.func 19) [] [])) [(.t 39), (.t 44)]), oG 46 34 false (.un .not (.t 45)), oQ 47 (.pick (.t 34) (.c (.bool true)) (.t 46))])
 (.cond (.t 47)
 (.seq
 (.reg false [4] [
 oQ 4 (.mov (.c (.bool false)))])
 .ret)
 .skip)))
 (.reg false [0, 1, 5] [
 oQ 21 (.mov (.t 5)), oQ 22 (.bin .add (.t 21) (.c (.int .i64 1))), oQ 5 (.mov (.t 22))]))))))
 (.seq
 (.reg false [4] [
 oQ 4 (.mov (.c (.bool true)))])
 .ret))))
theorem op_constraintref06_Same (hn : vals.length ≤ 48) (h : SP Try.prog true vals bs rc_constraintref06_Same [.slot 4] Q) : AM.Sem Try.prog 12 vals bs Q :=
 Sem.nrm (Sem.of (fn := Try.f12) (keeps := [(0, [0, 1]), (1, [0, 1, 10]), (2, [4]), (3, [0, 1, 5]), (4, [0, 1, 5, 20]), (6, [0, 1, 5, 47]), (7, [4]), (5, [0, 1, 5]), (8, [4])]) (solo := []) Try.func12 rfl (by kernel_rfl) (by kernel_rfl) (by kernel_rfl) hn (run_gp h))
def rc_constraintref03_Right : RC :=
 (.seq
 (.reg false [1] [
 oQ 1 (.box (.t 0)), oQ 2 (.mov (.c (.bool false)))])
 (.seq
 (.reg false [2] [
 oQ 3 (.load true 4 (.t 1)), oQ 4 (.call (.c (.fn (.func 35) [] [])) [(.t 3)]), oQ 5 (.mov (.t 4)), oG 6 5 true (.load true 4 (.t 1)), oG 7 5 true (.call (.c (.fn (.func 36) [] [])) [(.t 6)]), oG 8 5 true (.bin .leq (.t 7) (.c (.int .i64 200))), oQ 9 (.pick (.t 5) (.t 8) (.c (.bool false))), oQ 10 (.mov (.t 9)), oG 11 10 true (.load true 4 (.t 1)), oG 12 10 true (.call (.c (.fn (.func 37) [] [])) [(.t 11)]), oG 13 10 true (.bin .leq (.t 12) (.c (.int .i64 20))), oQ 14 (.pick (.t 10) (.t 13) (.c (.bool false))), oQ 2 (.mov (.t 14))])
 .ret))
theorem op_constraintref03_Right (hn : vals.length ≤ 15) (h : SP Try.prog true vals bs rc_constraintref03_Right [.slot 2] Q) : AM.Sem Try.prog 21 vals bs Q :=
 Sem.nrm (Sem.of (fn := Try.f21) (keeps := [(0, [1]), (1, [2])]) (solo := []) Try.func21 rfl (by kernel_rfl) (by kernel_rfl) (by kernel_rfl) hn (run_gp h))
def rc_constraintref03_form : RC :=
 (.seq
 (.reg false [1] [
 oQ 1 (.box (.t 0)), oQ 2 (.mov (.c (.bool false)))])
 (.seq
 (.seq
 (.reg false [1, 6] [
 oQ 5 (.fptr 0 (.t 1)), oQ 6 (.load false 1 (.t 5))])
 (.block 0
 (.seq
 (.reg false [1, 6, 7] [
 oQ 8 (.bin .eql (.t 6) (.c (.int .i64 0))), oQ 7 (.mov (.t 8))])
 (.cond (.t 7)
 (.seq
 (.reg false [2] [
 oQ 9 (.fptr 1 (.t 1)), oQ 10 (.load false 1 (.t 9)), oQ 11 (.bin .geq (.t 10) (.c (.int .i64 (-2147483648)))), oQ 12 (.mov (.t 11)), oG 13 12 true (.fptr 1 (.t 1)), oG 14 12 true (.load false 1 (.t 13)), oG 15 12 true (.bin .leq (.t 14) (.c (.int .i64 2147483648))), oQ 16 (.pick (.t 12) (.t 15) (.c (.bool false))), oQ 17 (.mov (.t 16)), oG 18 17 true (.fptr 2 (.t 1)), oG 19 17 true (.load false 1 (.t 18)), oG 20 17 true (.bin .eql (.t 19) (.c (.str ⟨⟨[]⟩⟩))), oQ 21 (.pick (.t 17) (.t 20) (.c (.bool false))), oQ 22 (.mov (.t 21)), oG 23 22 true (.fptr 3 (.t 1)), oG 24 22 true (.load false 1 (.t 23)), oG 25 22 true (.len false (.t 24)), oG 26 22 true (.bin .eql (.t 25) (.c (.int .i64 0))), oQ 27 (.pick (.t 22) (.t 26) (.c (.bool false))), oQ 2 (.mov (.t 27))])
 .ret)
 (.seq
 (.reg false [1, 6, 28] [
 oQ 29 (.bin .eql (.t 6) (.c (.int .i64 1))), oQ 28 (.mov (.t 29))])
 (.cond (.t 28)
 (.seq
 (.reg false [2] [
 oQ 30 (.fptr 1 (.t 1)), oQ 31 (.load false 1 (.t 30)), oQ 32 (.bin .geq (.t 31) (.c (.int .i64 0))), oQ 33 (.mov (.t 32)), oG 34 33 true (.fptr 1 (.t 1)), oG 35 33 true (.load false 1 (.t 34)), oG 36 33 true (.bin .leq (.t 35) (.c (.int .i64 1048576))), oQ 37 (.pick (.t 33) (.t 36) (.c (.bool false))), oQ 38 (.mov (.t 37)), oG 39 38 true (.fptr 2 (.t 1)), oG 40 38 true (.load false 1 (.t 39)), oG 41 38 true (.bin .eql (.t 40) (.c (.str ⟨⟨[]⟩⟩))), oQ 42 (.pick (.t 38) (.t 41) (.c (.bool false))), oQ 43 (.mov (.t 42)), oG 44 43 true (.fptr 3 (.t 1)), oG 45 43 true (.load false 1 (.t 44)), oG 46 43 true (.len false (.t 45)), oG 47 43 true (.bin .eql (.t 46) (.c (.int .i64 0))), oQ 48 (.pick (.t 43) (.t 47) (.c (.bool false))), oQ 2 (.mov (.t 48))])
 .ret)
 (.seq
 (.reg false [1, 49] [
 oQ 50 (.bin .eql (.t 6) (.c (.int .i64 2))), oQ 49 (.mov (.t 50))])
 (.cond (.t 49)
 (.seq
 (.reg false [1, 3] [
 oQ 51 (.fptr 2 (.t 1)), oQ 52 (.load false 1 (.t 51)), oQ 53 (.call (.c (.fn (.func 59) [] [])) [(.t 52)]), oQ 54 (.mov (.t 53)), oG 55 54 true (.fptr 3 (.t 1)), oG 56 54 true (.load false 1 (.t 55)), oG 57 54 true (.len false (.t 56)), oG 58 54 true (.bin .eql (.t 57) (.c (.int .i64 2))), oQ 59 (.pick (.t 54) (.t 58) (.c (.bool false))), oQ 3 (.mov (.t 59))])
 (.seq
 (.seq
 (.reg false [1, 78] [
 oQ 60 (.fptr 1 (.t 1)), oQ 61 (.load false 1 (.t 60)), oQ 62 (.bin .neq (.t 61) (.c (.int .i64 0))), oQ 63 (.mov (.t 62)), oG 64 63 false (.mov (.t 3)), oG 65 63 false (.un .not (.t 64)), oG 66 63 false (.mov (.t 65)), oG 67 66 true (.fptr 2 (.t 1)), oG 68 66 true (.load false 1 (.t 67)), oG 69 66 true (.call (.c (.fn (.func 60) [] [])) [(.t 68)]), oG 70 66 true (.un .not (.t 69)), oG 71 66 true (.mov (.t 70)), oG 72 71 false (.fptr 3 (.t 1)), oG 73 71 false (.load false 1 (.t 72)), oG 74 71 false (.len false (.t 73)), oG 75 71 false (.bin .gtr (.t 74) (.c (.int .i64 6))), oG 76 66 true (.pick (.t 71) (.c (.bool true)) (.t 75)), oG 77 63 false (.pick (.t 66) (.t 76) (.c (.bool false))), oQ 78 (.pick (.t 63) (.c (.bool true)) (.t 77))])
 (.cond (.t 78)
 (.seq
 (.reg false [2] [
 oQ 2 (.mov (.c (.bool false)))])
 .ret)
 .skip))
 (.seq
 (.seq
 (.reg false [1, 4] [
 oQ 4 (.mov (.c (.int .i64 0)))])
 (.block 1
 (.loop
 (.seq
 (.seq
 (.reg false [1, 4, 83] [
 oQ 79 (.mov (.t 4)), oQ 80 (.fptr 3 (.t 1)), oQ 81 (.load false 1 (.t 80)), oQ 82 (.len false (.t 81)), oQ 83 (.bin .lss (.t 79) (.t 82))])
 (.cond (.t 83)
 .skip
 (.exit 1)))
 (.seq
 (.block 2
 (.seq
 (.reg false [1, 4, 92] [
 oQ 86 (.fptr 3 (.t 1)), oQ 87 (.load false 1 (.t 86)), oQ 88 (.mov (.t 4)), oQ 89 (.idx 4 (.t 87) (.t 88)), oQ 90 (.load true 4 (.t 89)), oQ 91 (.call (.c (.fn (.func 35) [] [])) [(.t 90)]), oQ 92 (.un .not (.t 91))])
 (.cond (.t 92)
 (.seq
 (.reg false [2] [
 oQ 2 (.mov (.c (.bool false)))])
 .ret)
 .skip)))
 (.reg false [1, 4] [
 oQ 84 (.mov (.t 4)), oQ 85 (.bin .add (.t 84) (.c (.int .i64 1))), oQ 4 (.mov (.t 85))]))))))
 (.seq
 (.reg false [2] [
 oQ 2 (.mov (.c (.bool true)))])
 .ret))))
 .skip))))))))
 (.seq
 (.reg false [2] [
 oQ 2 (.mov (.c (.bool false)))])
 .ret)))
theorem op_constraintref03_form (hn : vals.length ≤ 93) (h : SP Try.prog true vals bs rc_constraintref03_form [.slot 2] Q) : AM.Sem Try.prog 35 vals bs Q :=
 Sem.nrm (Sem.of (fn := Try.f35) (keeps := [(0, [1]), (1, [1, 6]), (2, [1, 6, 7]), (4, [1, 6, 28]), (6, [1, 49]), (7, [1, 3]), (8, [1, 78]), (9, [2]), (10, [1, 4]), (11, [1, 4, 83]), (13, [1, 4, 92]), (14, [2]), (12, [1, 4]), (15, [2]), (5, [2]), (3, [2]), (16, [2])]) (solo := []) Try.func35 rfl (by kernel_rfl) (by kernel_rfl) (by kernel_rfl) hn (run_gp h))
def rc_constraintref03_Size : RC :=
 (.seq
 (.reg false [1] [
 oQ 1 (.box (.t 0)), oQ 2 (.mov (.c (.int .i64 0)))])
 (.seq
 (.reg false [1, 3] [
 oQ 3 (.mov (.c (.int .i64 1)))])
 (.seq
 (.reg false [3, 4] [
 oQ 6 (.load true 4 (.t 1)), oQ 7 (.call (.c (.fn (.func 61) [] [])) [(.t 6)]), oQ 4 (.mov (.t 7))])
 (.seq
 (.seq
 (.reg false [3, 4, 5] [
 oQ 5 (.mov (.c (.int .i64 0)))])
 (.block 0
 (.loop
 (.seq
 (.seq
 (.reg false [3, 4, 5, 11] [
 oQ 8 (.mov (.t 5)), oQ 9 (.mov (.t 4)), oQ 10 (.len false (.t 9)), oQ 11 (.bin .lss (.t 8) (.t 10))])
 (.cond (.t 11)
 .skip
 (.exit 0)))
 (.seq
 (.block 1
 (.reg false [3, 4, 5] [
 oQ 14 (.mov (.t 3)), oQ 15 (.mov (.t 4)), oQ 16 (.mov (.t 5)), oQ 17 (.idx 4 (.t 15) (.t 16)), oQ 18 (.load true 4 (.t 17)), oQ 19 (.call (.c (.fn (.func 36) [] [])) [(.t 18)]), oQ 20 (.bin .add (.t 14) (.t 19)), oQ 3 (.mov (.t 20))]))
 (.reg false [3, 4, 5] [
 oQ 12 (.mov (.t 5)), oQ 13 (.bin .add (.t 12) (.c (.int .i64 1))), oQ 5 (.mov (.t 13))]))))))
 (.seq
 (.reg false [2] [
 oQ 21 (.mov (.t 3)), oQ 2 (.mov (.t 21))])
 .ret)))))
theorem op_constraintref03_Size (hn : vals.length ≤ 22) (h : SP Try.prog true vals bs rc_constraintref03_Size [.slot 2] Q) : AM.Sem Try.prog 36 vals bs Q :=
 Sem.nrm (Sem.of (fn := Try.f36) (keeps := [(0, [1]), (1, [1, 3]), (2, [3, 4]), (3, [3, 4, 5]), (4, [3, 4, 5, 11]), (6, [3, 4, 5]), (5, [3, 4, 5]), (7, [2])]) (solo := []) Try.func36 rfl (by kernel_rfl) (by kernel_rfl) (by kernel_rfl) hn (run_gp h))
def rc_constraintref03_Depth : RC :=
 (.seq
 (.reg false [1] [
 oQ 1 (.box (.t 0)), oQ 2 (.mov (.c (.int .i64 0)))])
 (.seq
 (.reg false [1, 3] [
 oQ 3 (.mov (.c (.int .i64 0)))])
 (.seq
 (.reg false [3, 4] [
 oQ 6 (.load true 4 (.t 1)), oQ 7 (.call (.c (.fn (.func 61) [] [])) [(.t 6)]), oQ 4 (.mov (.t 7))])
 (.seq
 (.seq
 (.reg false [3, 4, 5] [
 oQ 5 (.mov (.c (.int .i64 0)))])
 (.block 0
 (.loop
 (.seq
 (.seq
 (.reg false [3, 4, 5, 11] [
 oQ 8 (.mov (.t 5)), oQ 9 (.mov (.t 4)), oQ 10 (.len false (.t 9)), oQ 11 (.bin .lss (.t 8) (.t 10))])
 (.cond (.t 11)
 .skip
 (.exit 0)))
 (.seq
 (.block 1
 (.reg false [3, 4, 5] [
 oQ 14 (.mov (.t 3)), oQ 15 (.mov (.t 4)), oQ 16 (.mov (.t 5)), oQ 17 (.idx 4 (.t 15) (.t 16)), oQ 18 (.load true 4 (.t 17)), oQ 19 (.call (.c (.fn (.func 37) [] [])) [(.t 18)]), oQ 20 (.minmax true (.t 14) (.t 19)), oQ 3 (.mov (.t 20))]))
 (.reg false [3, 4, 5] [
 oQ 12 (.mov (.t 5)), oQ 13 (.bin .add (.t 12) (.c (.int .i64 1))), oQ 5 (.mov (.t 13))]))))))
 (.seq
 (.reg false [2] [
 oQ 21 (.mov (.t 3)), oQ 22 (.bin .add (.t 21) (.c (.int .i64 1))), oQ 2 (.mov (.t 22))])
 .ret)))))
theorem op_constraintref03_Depth (hn : vals.length ≤ 23) (h : SP Try.prog true vals bs rc_constraintref03_Depth [.slot 2] Q) : AM.Sem Try.prog 37 vals bs Q :=
 Sem.nrm (Sem.of (fn := Try.f37) (keeps := [(0, [1]), (1, [1, 3]), (2, [3, 4]), (3, [3, 4, 5]), (4, [3, 4, 5, 11]), (6, [3, 4, 5]), (5, [3, 4, 5]), (7, [2])]) (solo := []) Try.func37 rfl (by kernel_rfl) (by kernel_rfl) (by kernel_rfl) hn (run_gp h))
def rc_constraintref03_Same : RC :=
 (.seq
 (.reg false [2, 3] [
 oQ 2 (.box (.t 0)), oQ 3 (.box (.t 1)), oQ 4 (.mov (.c (.bool false)))])
 (.seq
 (.reg false [4] [
 oQ 5 (.load true 4 (.t 2)), oQ 6 (.load true 4 (.t 3)), oQ 7 (.call (.c (.fn (.func 32) [] [])) [(.t 5), (.t 6)]), oQ 8 (.bin .eql (.t 7) (.c (.int .i64 0))), oQ 4 (.mov (.t 8))])
 .ret))
theorem op_constraintref03_Same (hn : vals.length ≤ 9) (h : SP Try.prog true vals bs rc_constraintref03_Same [.slot 4] Q) : AM.Sem Try.prog 19 vals bs Q :=
 Sem.nrm (Sem.of (fn := Try.f19) (keeps := [(0, [2, 3]), (1, [4])]) (solo := []) Try.func19 rfl (by kernel_rfl) (by kernel_rfl) (by kernel_rfl) hn (run_gp h))
def rc_constraintref02_Operator : RC :=
 (.seq
 (.reg false [0] [
 oQ 2 (.mov (.c (.bool false)))])
 (.seq
 (.reg false [2] [
 oQ 3 (.mov (.t 0)), oQ 4 (.bin .eql (.t 3) (.c (.str ⟨⟨[43]⟩⟩))), oQ 5 (.mov (.t 4)), oG 6 5 false (.mov (.t 0)), oG 7 5 false (.bin .eql (.t 6) (.c (.str ⟨⟨[45]⟩⟩))), oQ 8 (.pick (.t 5) (.c (.bool true)) (.t 7)), oQ 9 (.mov (.t 8)), oG 10 9 false (.mov (.t 0)), oG 11 9 false (.bin .eql (.t 10) (.c (.str ⟨⟨[42]⟩⟩))), oQ 12 (.pick (.t 9) (.c (.bool true)) (.t 11)), oQ 13 (.mov (.t 12)), oG 14 13 false (.mov (.t 0)), oG 15 13 false (.bin .eql (.t 14) (.c (.str ⟨⟨[47]⟩⟩))), oQ 16 (.pick (.t 13) (.c (.bool true)) (.t 15)), oQ 17 (.mov (.t 16)), oG 18 17 false (.mov (.t 0)), oG 19 17 false (.bin .eql (.t 18) (.c (.str ⟨⟨[37]⟩⟩))), oQ 20 (.pick (.t 17) (.c (.bool true)) (.t 19)), oQ 2 (.mov (.t 20))])
 .ret))
theorem op_constraintref02_Operator (hn : vals.length ≤ 21) (h : SP Try.prog true vals bs rc_constraintref02_Operator [.slot 2] Q) : AM.Sem Try.prog 59 vals bs Q :=
 Sem.nrm (Sem.of (fn := Try.f59) (keeps := [(0, [0]), (1, [2])]) (solo := []) Try.func59 rfl (by kernel_rfl) (by kernel_rfl) (by kernel_rfl) hn (run_gp h))
def rc_constraintref02_Right : RC :=
 (.seq
 (.reg false [0] [
 oQ 2 (.mov (.c (.bool false)))])
 (.seq
 (.reg false [2] [
 oQ 3 (.mov (.t 0)), oQ 4 (.call (.c (.fn (.func 69) [] [])) [(.t 3)]), oQ 5 (.mov (.t 4)), oG 6 5 true (.mov (.t 0)), oG 7 5 true (.idxS (.t 6) (.c (.int .i64 0))), oG 8 5 true (.call (.c (.fn (.func 70) [] [])) [(.t 7)]), oQ 9 (.pick (.t 5) (.t 8) (.c (.bool false))), oQ 10 (.mov (.t 9)), oG 11 10 true (.mov (.t 0)), oG 12 10 true (.call (.c (.fn (.func 71) [] [])) [(.t 11)]), oG 13 10 true (.un .not (.t 12)), oQ 14 (.pick (.t 10) (.t 13) (.c (.bool false))), oQ 2 (.mov (.t 14))])
 .ret))
theorem op_constraintref02_Right (hn : vals.length ≤ 15) (h : SP Try.prog true vals bs rc_constraintref02_Right [.slot 2] Q) : AM.Sem Try.prog 60 vals bs Q :=
 Sem.nrm (Sem.of (fn := Try.f60) (keeps := [(0, [0]), (1, [2])]) (solo := []) Try.func60 rfl (by kernel_rfl) (by kernel_rfl) (by kernel_rfl) hn (run_gp h))
def rc_constraintref02_word : RC :=
 (.seq
 (.reg false [0] [
 oQ 2 (.mov (.c (.bool false)))])
 (.seq
 (.seq
 (.reg false [0, 3] [
 oQ 3 (.mov (.c (.int .i64 0)))])
 (.block 0
 (.loop
 (.seq
 (.seq
 (.reg false [0, 3, 7] [
 oQ 4 (.mov (.t 3)), oQ 5 (.mov (.t 0)), oQ 6 (.len true (.t 5)), oQ 7 (.bin .lss (.t 4) (.t 6))])
 (.cond (.t 7)
 .skip
 (.exit 0)))
 (.seq
 (.block 1
 (.seq
 (.reg false [0, 3, 39] [
 oQ 10 (.mov (.t 0)), oQ 11 (.mov (.t 3)), oQ 12 (.idxS (.t 10) (.t 11)), oQ 13 (.call (.c (.fn (.func 70) [] [])) [(.t 12)]), oQ 14 (.un .not (.t 13)), oQ 15 (.mov (.t 14)), oG 16 15 true (.mov (.t 0)), oG 17 15 true (.mov (.t 3)), oG 18 15 true (.idxS (.t 16) (.t 17)), oG 19 15 true (.call (.c (.fn (.func 79) [] [])) [(.t 18)]), oG 20 15 true (.un .not (.t 19)), oQ 21 (.pick (.t 15) (.t 20) (.c (.bool false))), oQ 22 (.mov (.t 21)), oG 23 22 true (.mov (.t 0)), oG 24 22 true (.mov (.t 3)), oG 25 22 true (.idxS (.t 23) (.t 24)), oG 26 22 true (.bin .lss (.t 25) (.c (.int .u8 48))), oG 27 22 true (.mov (.t 26)), oG 28 27 false (.mov (.t 0)), oG 29 27 false (.mov (.t 3)), oG 30 27 false (.idxS (.t 28) (.t 29)), oG 31 27 false (.bin .gtr (.t 30) (.c (.int .u8 57))), oG 32 22 true (.pick (.t 27) (.c (.bool true)) (.t 31)), oQ 33 (.pick (.t 22) (.t 32) (.c (.bool false))), oQ 34 (.mov (.t 33)), oG 35 34 true (.mov (.t 0)), oG 36 34 true (.mov (.t 3)), oG 37 34 true (.idxS (.t 35) (.t 36)), oG 38 34 true (.bin .neq (.t 37) (.c (.int .u8 95))), oQ 39 (.pick (.t 34) (.t 38) (.c (.bool false)))])
 (.cond (.t 39)
 (.seq
 (.reg false [2] [
 oQ 2 (.mov (.c (.bool false)))])
 .ret)
 .skip)))
 (.reg false [0, 3] [
 oQ 8 (.mov (.t 3)), oQ 9 (.bin .add (.t 8) (.c (.int .i64 1))), oQ 3 (.mov (.t 9))]))))))
 (.seq
 (.reg false [2] [
 oQ 40 (.mov (.t 0)), oQ 41 (.len true (.t 40)), oQ 42 (.bin .geq (.t 41) (.c (.int .i64 1))), oQ 43 (.mov (.t 42)), oG 44 43 true (.mov (.t 0)), oG 45 43 true (.len true (.t 44)), oG 46 43 true (.bin .leq (.t 45) (.c (.int .i64 40))), oQ 47 (.pick (.t 43) (.t 46) (.c (.bool false))), oQ 2 (.mov (.t 47))])
 .ret)))
theorem op_constraintref02_word (hn : vals.length ≤ 48) (h : SP Try.prog true vals bs rc_constraintref02_word [.slot 2] Q) : AM.Sem Try.prog 69 vals bs Q :=
 Sem.nrm (Sem.of (fn := Try.f69) (keeps := [(0, [0]), (1, [0, 3]), (2, [0, 3, 7]), (4, [0, 3, 39]), (5, [2]), (3, [0, 3]), (6, [2])]) (solo := []) Try.func69 rfl (by kernel_rfl) (by kernel_rfl) (by kernel_rfl) hn (run_gp h))
def rc_constraintref02_lower : RC :=
 (.seq
 (.reg false [0] [
 oQ 2 (.mov (.c (.bool false)))])
 (.seq
 (.reg false [2] [
 oQ 3 (.mov (.t 0)), oQ 4 (.bin .geq (.t 3) (.c (.int .u8 97))), oQ 5 (.mov (.t 4)), oG 6 5 true (.mov (.t 0)), oG 7 5 true (.bin .leq (.t 6) (.c (.int .u8 122))), oQ 8 (.pick (.t 5) (.t 7) (.c (.bool false))), oQ 2 (.mov (.t 8))])
 .ret))
theorem op_constraintref02_lower (hn : vals.length ≤ 9) (h : SP Try.prog true vals bs rc_constraintref02_lower [.slot 2] Q) : AM.Sem Try.prog 70 vals bs Q :=
 Sem.nrm (Sem.of (fn := Try.f70) (keeps := [(0, [0]), (1, [2])]) (solo := []) Try.func70 rfl (by kernel_rfl) (by kernel_rfl) (by kernel_rfl) hn (run_gp h))
def rc_constraintref02_Reserved : RC :=
 (.seq
 (.reg false [0] [
 oQ 2 (.mov (.c (.bool false)))])
 (.seq
 (.reg false [2] [
 oQ 3 (.mov (.t 0)), oQ 4 (.bin .eql (.t 3) (.c (.str ⟨⟨[99, 111, 110, 115, 116, 114, 97, 105, 110, 116]⟩⟩))), oQ 5 (.mov (.t 4)), oG 6 5 false (.mov (.t 0)), oG 7 5 false (.bin .eql (.t 6) (.c (.str ⟨⟨[116, 114, 117, 101]⟩⟩))), oQ 8 (.pick (.t 5) (.c (.bool true)) (.t 7)), oQ 9 (.mov (.t 8)), oG 10 9 false (.mov (.t 0)), oG 11 9 false (.bin .eql (.t 10) (.c (.str ⟨⟨[102, 97, 105, 108]⟩⟩))), oQ 12 (.pick (.t 9) (.c (.bool true)) (.t 11)), oQ 13 (.mov (.t 12)), oG 14 13 false (.mov (.t 0)), oG 15 13 false (.bin .eql (.t 14) (.c (.str ⟨⟨[105, 115]⟩⟩))), oQ 16 (.pick (.t 13) (.c (.bool true)) (.t 15)), oQ 17 (.mov (.t 16)), oG 18 17 false (.mov (.t 0)), oG 19 17 false (.bin .eql (.t 18) (.c (.str ⟨⟨[105, 110, 116]⟩⟩))), oQ 20 (.pick (.t 17) (.c (.bool true)) (.t 19)), oQ 21 (.mov (.t 20)), oG 22 21 false (.mov (.t 0)), oG 23 21 false (.bin .eql (.t 22) (.c (.str ⟨⟨[103, 114, 111, 117, 110, 100]⟩⟩))), oQ 24 (.pick (.t 21) (.c (.bool true)) (.t 23)), oQ 2 (.mov (.t 24))])
 .ret))
theorem op_constraintref02_Reserved (hn : vals.length ≤ 25) (h : SP Try.prog true vals bs rc_constraintref02_Reserved [.slot 2] Q) : AM.Sem Try.prog 71 vals bs Q :=
 Sem.nrm (Sem.of (fn := Try.f71) (keeps := [(0, [0]), (1, [2])]) (solo := []) Try.func71 rfl (by kernel_rfl) (by kernel_rfl) (by kernel_rfl) hn (run_gp h))
def rc_constraintref02_upper : RC :=
 (.seq
 (.reg false [0] [
 oQ 2 (.mov (.c (.bool false)))])
 (.seq
 (.reg false [2] [
 oQ 3 (.mov (.t 0)), oQ 4 (.bin .geq (.t 3) (.c (.int .u8 65))), oQ 5 (.mov (.t 4)), oG 6 5 true (.mov (.t 0)), oG 7 5 true (.bin .leq (.t 6) (.c (.int .u8 90))), oQ 8 (.pick (.t 5) (.t 7) (.c (.bool false))), oQ 2 (.mov (.t 8))])
 .ret))
theorem op_constraintref02_upper (hn : vals.length ≤ 9) (h : SP Try.prog true vals bs rc_constraintref02_upper [.slot 2] Q) : AM.Sem Try.prog 79 vals bs Q :=
 Sem.nrm (Sem.of (fn := Try.f79) (keeps := [(0, [0]), (1, [2])]) (solo := []) Try.func79 rfl (by kernel_rfl) (by kernel_rfl) (by kernel_rfl) hn (run_gp h))
def rc_constraintlaw07_awake : RC :=
 (.seq
 (.reg false [] [
 oQ 0 (.mov (.c (.bool false)))])
 (.seq
 (.reg false [1] [
 oQ 8 (.call (.c (.fn (.func 22) [] [])) [(.c (.int .i64 0))]), oQ 9 (.bslice 4 [(.t 8)]), oQ 10 (.build [(.int .i64 0), (.int .i64 0), (.str ⟨⟨[]⟩⟩), (.sl .full [])] [(0, 1, (.c (.int .i64 2))), (2, 1, (.c (.str ⟨⟨[103]⟩⟩))), (3, 1, (.t 9))]), oQ 1 (.box (.c (.agg [(.int .i64 0), (.int .i64 0), (.str ⟨⟨[]⟩⟩), (.sl .full [])]))), oN (.store 4 (.t 1) (.t 10))])
 (.seq
 (.reg true [1, 2, 3] [
 oQ 12 (.call (.c (.fn (.func 22) [] [])) [(.c (.int .i64 2))]), oQ 13 (.call (.c (.fn (.func 22) [] [])) [(.c (.int .i64 1))]), oQ 14 (.call (.c (.fn (.func 24) [] [])) [(.t 12), (.t 13)]), oQ 15 (.call (.c (.fn (.func 22) [] [])) [(.c (.int .i64 1))]), oQ 16 (.load true 4 (.t 1)), oQ 17 (.call (.c (.fn (.func 24) [] [])) [(.t 15), (.t 16)]), oQ 18 (.call (.c (.fn (.func 10) [] [])) [(.t 14), (.t 17)]), oQ 11 (.take 18), oQ 19 (.ext 0 (.t 11)), oQ 20 (.ext 1 (.t 11)), oQ 2 (.take 19), oQ 3 (.take 20)])
 (.seq
 (.reg false [1, 2, 3, 4, 5] [
 oQ 22 (.call (.c (.fn (.func 22) [] [])) [(.c (.int .i64 3))]), oQ 23 (.call (.c (.fn (.func 22) [] [])) [(.c (.int .i64 3))]), oQ 24 (.bslice 4 [(.t 22), (.t 23)]), oQ 25 (.call (.c (.fn (.func 22) [] [])) [(.c (.int .i64 1))]), oQ 26 (.call (.c (.fn (.func 22) [] [])) [(.c (.int .i64 2))]), oQ 27 (.bslice 4 [(.t 25), (.t 26)]), oQ 28 (.call (.c (.fn (.func 16) [] [])) [(.t 24), (.t 27)]), oQ 21 (.mov (.t 28)), oQ 29 (.ext 0 (.t 21)), oQ 30 (.ext 1 (.t 21)), oQ 4 (.mov (.t 29)), oQ 5 (.mov (.t 30))])
 (.seq
 (.reg true [1, 2, 3, 4, 5, 7] [
 oQ 32 (.call (.c (.fn (.func 22) [] [])) [(.c (.int .i64 0))]), oQ 33 (.load true 4 (.t 1)), oQ 34 (.call (.c (.fn (.func 10) [] [])) [(.t 32), (.t 33)]), oQ 31 (.take 34), oQ 35 (.ext 0 (.t 31)), oQ 36 (.ext 1 (.t 31)), oQ 6 (.take 35), oQ 7 (.take 36)])
 (.seq
 (.reg true [0] [
 oQ 37 (.take 2), oQ 38 (.load true 4 (.t 1)), oQ 39 (.build [(.int .i64 0), (.int .i64 0), (.int .i64 0), (.str ⟨⟨[]⟩⟩), (.sl .full [])] [(0, 1, (.c (.int .i64 1))), (1, 4, (.t 38))]), oQ 40 (.load true 4 (.t 1)), oQ 41 (.build [(.int .i64 0), (.int .i64 0), (.int .i64 0), (.str ⟨⟨[]⟩⟩), (.sl .full [])] [(0, 1, (.c (.int .i64 2))), (1, 4, (.t 40))]), oQ 42 (.bslice 5 [(.t 39), (.t 41)]), oQ 43 (.call (.c (.fn (.func 12) [] [])) [(.t 37), (.t 42)]), oQ 44 (.take 43), oG 45 44 true (.take 3), oG 46 44 true (.bin .eql (.t 45) (.c (.int .i64 0))), oQ 47 (.pick (.t 44) (.t 46) (.c (.bool false))), oQ 48 (.take 47), oG 49 48 true (.take 4), oG 50 48 true (.call (.c (.fn (.func 22) [] [])) [(.c (.int .i64 1))]), oG 51 48 true (.build [(.int .i64 0), (.int .i64 0), (.int .i64 0), (.str ⟨⟨[]⟩⟩), (.sl .full [])] [(0, 1, (.c (.int .i64 2))), (1, 4, (.t 50))]), oG 52 48 true (.call (.c (.fn (.func 22) [] [])) [(.c (.int .i64 1))]), oG 53 48 true (.build [(.int .i64 0), (.int .i64 0), (.int .i64 0), (.str ⟨⟨[]⟩⟩), (.sl .full [])] [(0, 1, (.c (.int .i64 3))), (1, 4, (.t 52))]), oG 54 48 true (.bslice 5 [(.t 51), (.t 53)]), oG 55 48 true (.call (.c (.fn (.func 12) [] [])) [(.t 49), (.t 54)]), oQ 56 (.pick (.t 48) (.t 55) (.c (.bool false))), oQ 57 (.take 56), oG 58 57 true (.take 5), oG 59 57 true (.bin .eql (.t 58) (.c (.int .i64 0))), oQ 60 (.pick (.t 57) (.t 59) (.c (.bool false))), oQ 61 (.take 60), oG 62 61 true (.take 7), oG 63 61 true (.bin .eql (.t 62) (.c (.int .i64 13))), oQ 64 (.pick (.t 61) (.t 63) (.c (.bool false))), oQ 65 (.take 64), oG 66 65 true (.call (.c (.fn (.func 22) [] [])) [(.c (.int .i64 0))]), oG 67 65 true (.call (.c (.fn (.func 22) [] [])) [(.c (.int .i64 1))]), oG 68 65 true (.call (.c (.fn (.func 13) [] [])) [(.t 66), (.t 67)]), oQ 69 (.pick (.t 65) (.t 68) (.c (.bool false))), oQ 70 (.take 69), oG 71 70 true (.call (.c (.fn (.func 22) [] [])) [(.c (.int .i64 0))]), oG 72 70 true (.load true 4 (.t 1)), oG 73 70 true (.call (.c (.fn (.func 13) [] [])) [(.t 71), (.t 72)]), oG 74 70 true (.un .not (.t 73)), oQ 75 (.pick (.t 70) (.t 74) (.c (.bool false))), oQ 0 (.take 75)])
 .ret))))))
theorem op_constraintlaw07_awake (hn : vals.length ≤ 76) (h : SP Try.prog true vals bs rc_constraintlaw07_awake [.slot 0] Q) : AM.Sem Try.prog 9 vals bs Q :=
 Sem.nrm (Sem.of (fn := Try.f9) (keeps := [(0, []), (1, [1]), (2, [1, 2, 3]), (3, [1, 2, 3, 4, 5]), (4, [1, 2, 3, 4, 5, 7]), (5, [0])]) (solo := []) Try.func9 rfl (by kernel_rfl) (by kernel_rfl) (by kernel_rfl) hn (run_gp h))
def rc_constraintlaw07_Few : RC :=
 (.seq
 (.reg false [0] [
 oQ 2 (.mov (.c (.bool false)))])
 (.seq
 (.seq
 (.reg false [0, 6] [
 oQ 4 (.mov (.t 0)), oQ 5 (.len false (.t 4)), oQ 6 (.bin .gtr (.t 5) (.c (.int .i64 40)))])
 (.cond (.t 6)
 (.seq
 (.reg false [2] [
 oQ 2 (.mov (.c (.bool false)))])
 .ret)
 .skip))
 (.seq
 (.seq
 (.reg false [0, 8, 9] [
 oQ 7 (.mov (.t 0)), oQ 8 (.len false (.t 7)), oQ 9 (.mov (.c (.int .i64 0)))])
 (.block 0
 (.loop
 (.seq
 (.reg false [0, 8, 9, 10] [
 oQ 10 (.bin .lss (.t 9) (.t 8))])
 (.seq
 (.cond (.t 10)
 .skip
 (.exit 0))
 (.seq
 (.block 1
 (.seq
 (.reg false [0, 3, 8, 9] [
 oQ 11 (.mov (.t 9)), oQ 3 (.mov (.t 11))])
 (.seq
 (.reg false [0, 8, 9, 17] [
 oQ 12 (.mov (.t 0)), oQ 13 (.mov (.t 3)), oQ 14 (.idx 4 (.t 12) (.t 13)), oQ 15 (.load true 4 (.t 14)), oQ 16 (.call (.c (.fn (.func 8) [] [])) [(.t 15)]), oQ 17 (.un .not (.t 16))])
 (.cond (.t 17)
 (.seq
 (.reg false [2] [
 oQ 2 (.mov (.c (.bool false)))])
 .ret)
 .skip))))
 (.reg false [0, 8, 9] [
 oQ 18 (.bin .add (.t 9) (.c (.int .i64 1))), oQ 9 (.mov (.t 18))])))))))
 (.seq
 (.reg false [2] [
 oQ 2 (.mov (.c (.bool true)))])
 .ret))))
theorem op_constraintlaw07_Few (hn : vals.length ≤ 19) (h : SP Try.prog true vals bs rc_constraintlaw07_Few [.slot 2] Q) : AM.Sem Try.prog 15 vals bs Q :=
 Sem.nrm (Sem.of (fn := Try.f15) (keeps := [(0, [0]), (1, [0, 6]), (2, [2]), (3, [0, 8, 9]), (4, [0, 8, 9, 10]), (5, [0, 3, 8, 9]), (6, [0, 8, 9, 17]), (7, [2]), (8, [0, 8, 9]), (9, [2])]) (solo := []) Try.func15 rfl (by kernel_rfl) (by kernel_rfl) (by kernel_rfl) hn (run_gp h))
def rc_constraintlaw07_v : RC :=
 (.seq
 (.reg false [0, 2] [
 oQ 2 (.box (.c (.agg [(.int .i64 0), (.int .i64 0), (.str ⟨⟨[]⟩⟩), (.sl .full [])])))])
 (.seq
 (.reg false [2] [
 oQ 3 (.mov (.t 0)), oQ 4 (.build [(.int .i64 0), (.int .i64 0), (.str ⟨⟨[]⟩⟩), (.sl .full [])] [(0, 1, (.c (.int .i64 1))), (1, 1, (.t 3))]), oN (.store 4 (.t 2) (.t 4))])
 .ret))
theorem op_constraintlaw07_v (hn : vals.length ≤ 5) (h : SP Try.prog true vals bs rc_constraintlaw07_v [.cell 2 true 4] Q) : AM.Sem Try.prog 22 vals bs Q :=
 Sem.nrm (Sem.of (fn := Try.f22) (keeps := [(0, [0, 2]), (1, [2])]) (solo := []) Try.func22 rfl (by kernel_rfl) (by kernel_rfl) (by kernel_rfl) hn (run_gp h))
def rc_constraintlaw07_f : RC :=
 (.seq
 (.reg false [2, 3, 4] [
 oQ 2 (.box (.t 0)), oQ 3 (.box (.t 1)), oQ 4 (.box (.c (.agg [(.int .i64 0), (.int .i64 0), (.str ⟨⟨[]⟩⟩), (.sl .full [])])))])
 (.seq
 (.reg false [4] [
 oQ 5 (.load true 4 (.t 2)), oQ 6 (.load true 4 (.t 3)), oQ 7 (.bslice 4 [(.t 5), (.t 6)]), oQ 8 (.build [(.int .i64 0), (.int .i64 0), (.str ⟨⟨[]⟩⟩), (.sl .full [])] [(0, 1, (.c (.int .i64 2))), (2, 1, (.c (.str ⟨⟨[102]⟩⟩))), (3, 1, (.t 7))]), oN (.store 4 (.t 4) (.t 8))])
 .ret))
theorem op_constraintlaw07_f (hn : vals.length ≤ 9) (h : SP Try.prog true vals bs rc_constraintlaw07_f [.cell 4 true 4] Q) : AM.Sem Try.prog 24 vals bs Q :=
 Sem.nrm (Sem.of (fn := Try.f24) (keeps := [(0, [2, 3, 4]), (1, [4])]) (solo := []) Try.func24 rfl (by kernel_rfl) (by kernel_rfl) (by kernel_rfl) hn (run_gp h))
def rcA_p_unify_graph_measured : RC :=
 (.seq
 (.reg false [0, 1, 2, 6] [
 oQ 6 (.box (.c (.agg [(.int .i64 0), (.int .i64 0)]))), oQ 7 (.mov (.c (.bool false)))])
 (.seq
 (.seq
 (.reg false [0, 1, 2, 6, 8, 9] [
 oQ 18 (.mov (.t 0)), oQ 19 (.nilck (.t 18)), oQ 20 (.fptr 5 (.t 19)), oQ 21 (.load false 1 (.t 20)), oQ 22 (.mov (.t 1)), oQ 23 (.eff (.getM true (.agg [(.int .i64 0), (.int .i64 0)])) [(.t 21), (.t 22)]), oQ 17 (.mov (.t 23)), oQ 24 (.ext 0 (.t 17)), oQ 25 (.ext 1 (.t 17)), oQ 8 (.box (.c (.agg [(.int .i64 0), (.int .i64 0)]))), oN (.store 2 (.t 8) (.t 24)), oQ 9 (.mov (.t 25))])
 (.seq
 (.reg false [0, 1, 2, 6, 8, 26] [
 oQ 26 (.mov (.t 9))])
 (.cond (.t 26)
 (.seq
 (.reg false [6, 7] [
 oQ 27 (.load true 2 (.t 8)), oN (.store 2 (.t 6) (.t 27)), oQ 7 (.mov (.c (.bool true)))])
 .ret)
 .skip)))
 (.seq
 (.seq
 (.reg false [0, 1, 2, 6, 30] [
 oQ 28 (.mov (.t 2)), oQ 29 (.mov (.t 1)), oQ 30 (.eff (.getM false (.bool false)) [(.t 28), (.t 29)])])
 (.cond (.t 30)
 (.seq
 (.reg false [6, 7] [
 oQ 31 (.build [(.int .i64 0), (.int .i64 0)] []), oN (.store 2 (.t 6) (.t 31)), oQ 7 (.mov (.c (.bool false)))])
 .ret)
 .skip))
 (.seq
 (.reg false [0, 1, 2, 6] [
 oQ 32 (.mov (.t 2)), oQ 33 (.mov (.t 1)), oN (.eff .setM [(.t 32), (.t 33), (.c (.bool true))])])
 .skip))))
def rcB_p_unify_graph_measured : RC :=
 (.seq
 (.reg false [0, 1, 2, 6, 10] [
 oQ 36 (.build [(.int .i64 0), (.int .i64 0)] [(0, 1, (.c (.int .i64 1))), (1, 1, (.c (.int .i64 1)))]), oQ 10 (.box (.c (.agg [(.int .i64 0), (.int .i64 0)]))), oN (.store 2 (.t 10) (.t 36))])
 (.seq
 (.seq
 (.reg false [0, 1, 2, 6, 10, 11, 12] [
 oQ 38 (.mov (.t 0)), oQ 39 (.nilck (.t 38)), oQ 40 (.fptr 3 (.t 39)), oQ 41 (.load false 1 (.t 40)), oQ 42 (.mov (.t 1)), oQ 43 (.eff (.getM true (.int .i64 0)) [(.t 41), (.t 42)]), oQ 37 (.mov (.t 43)), oQ 44 (.ext 0 (.t 37)), oQ 45 (.ext 1 (.t 37)), oQ 11 (.mov (.t 44)), oQ 12 (.mov (.t 45))])
 (.seq
 (.reg false [0, 1, 2, 6, 10, 11, 46] [
 oQ 46 (.mov (.t 12))])
 (.cond (.t 46)
 (.seq
 (.reg false [0, 1, 2, 6, 10, 54, 55, 56] [
 oQ 47 (.mov (.t 0)), oQ 48 (.nilck (.t 47)), oQ 49 (.fptr 0 (.t 48)), oQ 50 (.lod 1 false 1 (.t 49)), oQ 51 (.mov (.t 11)), oQ 52 (.idx 5 (.t 50) (.t 51)), oQ 53 (.fptr 4 (.t 52)), oQ 54 (.load false 1 (.t 53)), oQ 55 (.len false (.t 54)), oQ 56 (.mov (.c (.int .i64 0)))])
 (.block 0
 (.loop
 (.seq
 (.reg false [0, 1, 2, 6, 10, 54, 55, 56, 57] [
 oQ 57 (.bin .lss (.t 56) (.t 55))])
 (.seq
 (.cond (.t 57)
 .skip
 (.exit 0))
 (.seq
 (.block 1
 (.seq
 (.reg false [0, 1, 2, 6, 10, 14, 54, 55, 56] [
 oQ 58 (.idx 1 (.t 54) (.t 56)), oQ 59 (.load false 1 (.t 58)), oQ 14 (.mov (.t 59))])
 (.seq
 (.reg false [0, 1, 2, 6, 10, 15, 16, 54, 55, 56] [
 oQ 61 (.mov (.t 0)), oQ 62 (.mov (.t 0)), oQ 63 (.mov (.t 14)), oQ 64 (.call (.c (.fn (.func 41) [] [])) [(.t 62), (.t 63)]), oQ 65 (.mov (.t 2)), oQ 66 (.call (.c (.fn (.func 44) [] [])) [(.t 61), (.t 64), (.t 65)]), oQ 60 (.mov (.t 66)), oQ 67 (.ext 0 (.t 60)), oQ 68 (.ext 1 (.t 60)), oQ 15 (.box (.c (.agg [(.int .i64 0), (.int .i64 0)]))), oN (.store 2 (.t 15) (.t 67)), oQ 16 (.mov (.t 68))])
 (.seq
 (.seq
 (.reg false [0, 1, 2, 6, 10, 15, 54, 55, 56, 70] [
 oQ 69 (.mov (.t 16)), oQ 70 (.un .not (.t 69))])
 (.cond (.t 70)
 (.seq
 (.reg false [6, 7] [
 oQ 71 (.build [(.int .i64 0), (.int .i64 0)] []), oN (.store 2 (.t 6) (.t 71)), oQ 7 (.mov (.c (.bool false)))])
 .ret)
 .skip))
 (.seq
 (.reg false [0, 1, 2, 6, 10, 15, 54, 55, 56] [
 oQ 72 (.fptr 0 (.t 10)), oQ 73 (.load false 1 (.t 72)), oQ 74 (.fptr 0 (.t 15)), oQ 75 (.load false 1 (.t 74)), oQ 76 (.bin .add (.t 73) (.t 75)), oQ 77 (.minmax false (.t 76) (.c (.int .i64 201))), oQ 78 (.fptr 0 (.t 10)), oN (.store 1 (.t 78) (.t 77))])
 (.reg false [0, 1, 2, 6, 10, 54, 55, 56] [
 oQ 79 (.fptr 1 (.t 10)), oQ 80 (.load false 1 (.t 79)), oQ 81 (.fptr 1 (.t 15)), oQ 82 (.load false 1 (.t 81)), oQ 83 (.bin .add (.t 82) (.c (.int .i64 1))), oQ 84 (.minmax true (.t 80) (.t 83)), oQ 85 (.minmax false (.t 84) (.c (.int .i64 21))), oQ 86 (.fptr 1 (.t 10)), oN (.store 1 (.t 86) (.t 85))]))))))
 (.reg false [0, 1, 2, 6, 10, 54, 55, 56] [
 oQ 87 (.bin .add (.t 56) (.c (.int .i64 1))), oQ 56 (.mov (.t 87))])))))))
 .skip)))
 (.seq
 (.solo 6 [6, 10] [
 oQ 88 (.mov (.t 0)), oQ 89 (.nilck (.t 88)), oQ 90 (.fptr 5 (.t 89)), oQ 91 (.load false 1 (.t 90)), oQ 92 (.mov (.t 1)), oQ 93 (.load true 2 (.t 10)), oN (.eff .setM [(.t 91), (.t 92), (.t 93)])])
 (.seq
 (.reg false [6, 7] [
 oQ 94 (.load true 2 (.t 10)), oN (.store 2 (.t 6) (.t 94)), oQ 7 (.mov (.c (.bool true)))])
 .ret))))
theorem op_p_unify_graph_measured (hn : vals.length ≤ 95) (h : SPD Try.prog vals bs rcA_p_unify_graph_measured [oQ 34 (.mov (.t 2)), oQ 35 (.mov (.t 1))] (.t 34) (.t 35) rcB_p_unify_graph_measured [.cell 6 true 2, .slot 7] Q) : AM.Sem Try.prog 44 vals bs Q :=
 Sem.nrm (Sem.ofD (fn := Try.f44) (keeps := [(0, [0, 1, 2, 6]), (1, [0, 1, 2, 6, 8, 9]), (2, [0, 1, 2, 6, 8, 26]), (3, [6, 7]), (4, [0, 1, 2, 6, 30]), (5, [6, 7]), (6, [0, 1, 2, 6]), (7, [0, 1, 2, 6]), (8, [0, 1, 2, 6, 10]), (9, [0, 1, 2, 6, 10, 11, 12]), (10, [0, 1, 2, 6, 10, 11, 46]), (11, [0, 1, 2, 6, 10, 54, 55, 56]), (12, [0, 1, 2, 6, 10, 54, 55, 56, 57]), (13, [0, 1, 2, 6, 10, 14, 54, 55, 56]), (14, [0, 1, 2, 6, 10, 15, 16, 54, 55, 56]), (15, [0, 1, 2, 6, 10, 15, 54, 55, 56, 70]), (16, [6, 7]), (17, [0, 1, 2, 6, 10, 15, 54, 55, 56]), (18, [0, 1, 2, 6, 10, 54, 55, 56]), (19, [0, 1, 2, 6, 10, 54, 55, 56]), (20, [6, 10]), (21, [6, 7]), (1000000, [8050])]) (solo := [(20, 6)]) Try.func44 rfl (by kernel_rfl) (by kernel_rfl) (by kernel_rfl) hn (run_gpD h))
end Go.CK
