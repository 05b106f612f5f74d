/-
  Texts of this claim joined (wip/gen/bundle.py), those declarations only that are needed: RcIxb IxM IxO IxP. By an AI agent.
-/
import Derived.Test.YtcjfkbdbcgmomaaGreatDoorProg
import Derived.Test.YtcjfkbdbcgmomaaGreatDoorBap
import Derived.Test.YtcjfkbdbcgmomaaGreatDoorBau
import Derived.Test.YtcjfkbdbcgmomaaGreatDoorBaw
set_option linter.unusedSimpArgs false
set_option linter.unusedVariables false
namespace Go.CK
open Go.AM Go.Proofs
variable {vals : List AV} {bs : List Box} {Q : AV -> List Box -> Prop}
def rc_index_own : RC :=
 (.seq
 (.reg false [1, 2] [
 oQ 1 (.box (.t 0)), oQ 2 (.box (.c (.agg [(.int .i64 0), (.str ⟨⟨[]⟩⟩), (.sl .full [])])))])
 (.seq
 (.reg false [1, 2] [
 qF 3 1 1, qF 4 1 3, qL 5 4, oQ 6 (.build [(.int .i64 0), (.int .i64 0), (.str ⟨⟨[]⟩⟩), (.sl .full [])] [(3, 1, (.t 5))]), oQ 7 (.call (.c (.fn (.func 96) [] [])) [(.t 6)]), oQ 8 (.fld false 3 1 (.t 7)), qF 9 1 1, qF 10 1 9, oN (.store 1 (.t 10) (.t 8))])
 (.seq
 (.reg false [2] [
 qA 11 3 1, oN (.store 3 (.t 2) (.t 11))])
 .ret)))
theorem op_index_own (hn : vals.length ≤ 12) (h : SP Tryz.prog true vals bs rc_index_own [.cell 2 true 3] Q) : AM.Sem Tryz.prog 45 vals bs Q :=
 Sem.nrm (Sem.of (fn := Tryz.f45) (keeps := [(0, [1, 2]), (1, [1, 2]), (2, [2])]) (solo := []) Tryz.func45 rfl (by kernel_rfl) (by kernel_rfl) (by kernel_rfl) hn (run_gp h))
def rc_index_copied : RC :=
 (.seq
 (.reg false [1, 2] [
 oQ 1 (.box (.t 0)), oQ 2 (.box (.c (.agg [(.int .i64 0), (.int .i64 0), (.str ⟨⟨[]⟩⟩), (.sl .full [])])))])
 (.seq
 (.reg false [1, 2] [
 qF 5 3 1, qL 6 5, oQ 7 (.call (.c (.fn (.func 150) [] [])) [(.t 6)]), qF 8 3 1, oN (.store 1 (.t 8) (.t 7))])
 (.seq
 (.seq
 (.reg false [1, 2, 10, 11, 12] [
 qF 9 3 1, qL 10 9, oQ 11 (.len false (.t 10)), oQ 12 (.mov (.c (.int .i64 0)))])
 (.block 0
 (.loop
 (.seq
 (.reg false [1, 2, 10, 11, 12, 13] [
 oQ 13 (.bin .lss (.t 12) (.t 11))])
 (.seq
 (.cond (.t 13)
 .skip
 (.exit 0))
 (.seq
 (.block 1
 (.seq
 (.reg false [1, 2, 3, 4, 10, 11, 12] [
 qM 14 12, qI 15 4 10 12, qA 16 4 15, oQ 4 (.box (.c (.agg [(.int .i64 0), (.int .i64 0), (.str ⟨⟨[]⟩⟩), (.sl .full [])]))), qM 3 14, oN (.store 4 (.t 4) (.t 16))])
 (.mult [1, 2, 10, 11, 12] [
 (0, qF 17 3 1), (0, qL 18 17), (0, qM 19 3), (0, qA 20 4 4), (0, oQ 21 (.call (.c (.fn (.func 96) [] [])) [(.t 20)])), (0, qI 22 4 18 19), (1, oN (.store 4 (.t 22) (.t 21)))])))
 (.reg false [1, 2, 10, 11, 12] [
 oQ 23 (.bin .add (.t 12) (.c (.int .i64 1))), qM 12 23])))))))
 (.seq
 (.reg false [2] [
 qA 24 4 1, oN (.store 4 (.t 2) (.t 24))])
 .ret))))
theorem op_index_copied (hn : vals.length ≤ 25) (h : SP Tryz.prog true vals bs rc_index_copied [.cell 2 true 4] Q) : AM.Sem Tryz.prog 96 vals bs Q :=
 Sem.nrm (Sem.of (fn := Tryz.f96) (keeps := [(0, [1, 2]), (1, [1, 2]), (2, [1, 2, 10, 11, 12]), (3, [1, 2, 10, 11, 12, 13]), (4, [1, 2, 3, 4, 10, 11, 12]), (5, [1, 2, 10, 11, 12]), (6, [1, 2, 10, 11, 12]), (7, [2]), (2000005, [0, 1, 2, 3, 4, 5, 6]), (3000005, [0, 0, 0, 0, 0, 0, 1])]) (solo := []) Tryz.func96 rfl (by kernel_rfl) (by kernel_rfl) (by kernel_rfl) hn (run_gp h))
def rc_p_index_Index_keys : RC :=
 (.seq
 (.reg false [2, 3] [
 oQ 2 (.box (.t 0)), oQ 3 (.box (.t 1)), oQ 4 (.mov (.c .nfn))])
 (.seq
 (.reg false [4] [
 oQ 5 (.mkfn (.func 108) [] [(.t 2), (.t 3)]), qM 4 5])
 .ret))
def rc_p_index_Index_keys_1 : RC :=
 (.seq
 (.reg false [0, 2, 12, 13, 14] [
 qL 9 1, qK 10 9, qF 11 0 10, qL 12 11, oQ 13 (.len false (.t 12)), oQ 14 (.mov (.c (.int .i64 0)))])
 (.block 0
 (.loop
 (.seq
 (.reg false [0, 2, 12, 13, 14, 15] [
 oQ 15 (.bin .lss (.t 14) (.t 13))])
 (.seq
 (.cond (.t 15)
 .skip
 (.exit 0))
 (.seq
 (.block 1
 (.seq
 (.reg false [0, 2, 4, 5, 12, 13, 14] [
 qM 16 14, qI 17 3 12 14, qA 18 3 17, oQ 5 (.box (.c (.agg [(.str ⟨⟨[]⟩⟩), (.int .i64 0), (.sl .full [])]))), qM 4 16, oN (.store 3 (.t 5) (.t 18))])
 (.seq
 (.seq
 (.reg false [0, 2, 4, 5, 12, 13, 14, 31] [
 qF 19 0 5, qL 20 19, qF 21 0 2, qL 22 21, oQ 23 (.bin .neq (.t 20) (.t 22)), qM 24 23, oG 25 24 false (.fptr 1 (.t 5)), oG 26 24 false (.load false 1 (.t 25)), oG 27 24 false (.fptr 1 (.t 2)), oG 28 24 false (.load false 1 (.t 27)), oG 29 24 false (.len false (.t 28)), oG 30 24 false (.bin .neq (.t 26) (.t 29)), oQ 31 (.pick (.t 24) (.c (.bool true)) (.t 30))])
 (.cond (.t 31)
 (.exit 1)
 .skip))
 (.seq
 (.reg false [0, 2, 4, 5, 6, 12, 13, 14] [
 oQ 6 (.mov (.c (.sl .full [])))])
 (.seq
 (.seq
 (.reg false [0, 2, 4, 6, 12, 13, 14, 33, 34, 35] [
 qF 32 2 5, qL 33 32, oQ 34 (.len false (.t 33)), oQ 35 (.mov (.c (.int .i64 0)))])
 (.block 2
 (.loop
 (.seq
 (.reg false [0, 2, 4, 6, 12, 13, 14, 33, 34, 35, 36] [
 oQ 36 (.bin .lss (.t 35) (.t 34))])
 (.seq
 (.cond (.t 36)
 .skip
 (.exit 2))
 (.seq
 (.block 3
 (.seq
 (.reg false [0, 2, 4, 6, 8, 12, 13, 14, 33, 34, 35] [
 qI 37 1 33 35, qL 38 37, qM 8 38])
 (.reg false [0, 2, 4, 6, 12, 13, 14, 33, 34, 35] [
 qM 39 6, qF 40 1 2, qL 41 40, qM 42 8, qI 43 4 41 42, qA 44 4 43, oQ 45 (.bslice 4 [(.t 44)]), oQ 46 (.append 4 (.t 39) (.t 45)), qM 6 46])))
 (.reg false [0, 2, 4, 6, 12, 13, 14, 33, 34, 35] [
 oQ 47 (.bin .add (.t 35) (.c (.int .i64 1))), qM 35 47])))))))
 (.seq
 (.reg false [0, 2, 12, 13, 14, 53] [
 qM 48 0, qM 49 4, qM 50 6, oQ 51 (.call (.c (.fn (.func 47) [] [])) [(.t 50)]), oQ 52 (.callv (.t 48) [(.t 49), (.t 51)]), oQ 53 (.un .not (.t 52))])
 (.cond (.t 53)
 .ret
 .skip)))))))
 (.reg false [0, 2, 12, 13, 14] [
 oQ 54 (.bin .add (.t 14) (.c (.int .i64 1))), qM 14 54])))))))
def rc_p_index_Index_enter : RC :=
 (.seq
 (.reg false [2, 3] [
 oQ 2 (.box (.t 0)), oQ 3 (.box (.t 1))])
 (.seq
 (.reg false [2, 3, 12] [
 qL 9 2, qF 10 1 3, qA 11 2 10, oQ 12 (.call (.c (.fn (.func 53) [] [])) [(.t 9), (.t 11)])])
 (.block 0
 (.range (.t 12) [13, 14]
 (.seq
 (.reg false [2, 3, 4, 14] [
 qM 4 13])
 (.reg false [2, 3, 4, 5] [
 qM 5 14]))
 (.block 1
 (.seq
 (.reg false [2, 3, 4, 5, 6] [
 qL 15 2, qK 16 15, qF 17 2 16, qL 18 17, qM 19 4, qI 20 1 18 19, qL 21 20, qM 22 5, oQ 23 (.eff (.tab .get) [(.t 21), (.t 22)]), qM 6 23])
 (.seq
 (.reg false [2, 3, 4, 5, 6, 7] [
 qM 25 6, qF 26 0 3, qL 27 26, oQ 28 (.call (.c (.fn (.func 105) [] [])) [(.t 25), (.t 27)]), qM 24 28, oQ 29 (.ext 0 (.t 24)), oQ 30 (.ext 1 (.t 24)), qM 7 29, qM 8 30])
 (.mult [] [
 (0, qL 31 2), (0, qK 32 31), (0, qF 33 2 32), (0, qL 34 33), (0, qM 35 4), (0, qI 36 1 34 35), (0, qL 37 36), (0, qM 38 5), (0, qM 39 6), (0, qM 40 7), (0, qF 41 0 3), (0, qL 42 41), (2, oQ 43 (.eff (.bsR 1) [(.t 42)])), (2, oQ 44 (.call (.c (.fn (.func 106) [] [])) [(.t 39), (.t 40), (.t 43)])), (1, oN (.eff (.tab .put) [(.t 37), (.t 38), (.t 44)]))]))))))))
def rc_p_index_Index_find : RC :=
 (.seq
 (.reg false [0, 1] [
 oQ 4 (.mov (.c (.int .i64 0))), oQ 5 (.mov (.c (.bool false)))])
 (.seq
 (.reg false [4, 5] [
 qM 6 0, qK 7 6, qF 8 1 7, qL 9 8, qM 10 1, oQ 11 (.call (.c (.fn (.func 99) [] [])) [(.t 9), (.t 10), (.c (.fn (.func 100) [] []))]), oQ 12 (.ext 0 (.t 11)), oQ 13 (.ext 1 (.t 11)), qM 4 12, qM 5 13])
 .ret))
def rc_p_index_Index_find_1 : RC :=
 (.seq
 (.reg false [1, 2] [
 oQ 2 (.box (.t 0)), oQ 4 (.mov (.c (.int .i64 0)))])
 (.seq
 (.reg false [4] [
 qF 5 0 2, qL 6 5, qM 7 1, oQ 8 (.call (.c (.fn (.func 101) [] [])) [(.t 6), (.t 7)]), qM 4 8])
 .ret))
theorem op_p_index_Index_find_1 (hn : vals.length ≤ 9) (h : SP Tryz.prog true vals bs rc_p_index_Index_find_1 [.slot 4] Q) : AM.Sem Tryz.prog 100 vals bs Q :=
 Sem.nrm (Sem.of (fn := Tryz.f100) (keeps := [(0, [1, 2]), (1, [4])]) (solo := []) Tryz.func100 rfl (by kernel_rfl) (by kernel_rfl) (by kernel_rfl) hn (run_gp h))
def rc_p_index_Index_Insert : RC :=
 (.seq
 (.reg false [0, 3] [
 oQ 3 (.box (.t 1)), oQ 4 (.mov (.c (.int .i64 0)))])
 (.seq
 (.seq
 (.reg false [0, 3, 8] [
 qM 7 0, oQ 8 (.more (.eqP false) [(.t 7), (.c .nptr)])])
 (.cond (.t 8)
 (.seq
 (.reg false [4] [
 oQ 4 (.mov (.c (.int .i64 1)))])
 .ret)
 .skip))
 (.seq
 (.reg false [0, 3, 5, 6] [
 qM 10 0, qF 11 0 3, qL 12 11, oQ 13 (.call (.c (.fn (.func 48) [] [])) [(.t 10), (.t 12)]), qM 9 13, oQ 14 (.ext 0 (.t 9)), oQ 15 (.ext 1 (.t 9)), qM 5 14, qM 6 15])
 (.seq
 (.block 0
 (.seq
 (.reg false [0, 3, 5, 6, 16] [
 qF 17 0 3, qL 18 17, oQ 19 (.bin .lss (.t 18) (.c (.int .i64 1))), qM 20 19, oG 21 20 false (.fptr 1 (.t 3)), oG 22 20 false (.load true 2 (.t 21)), oG 23 20 false (.call (.c (.fn (.func 49) [] [])) [(.t 22)]), oG 24 20 false (.un .not (.t 23)), oQ 25 (.pick (.t 20) (.c (.bool true)) (.t 24)), qM 16 25])
 (.cond (.t 16)
 (.seq
 (.reg false [4] [
 oQ 4 (.mov (.c (.int .i64 2)))])
 .ret)
 (.seq
 (.reg false [0, 3, 5, 26] [
 qM 27 6, qM 26 27])
 (.cond (.t 26)
 (.seq
 (.reg false [4] [
 oQ 4 (.mov (.c (.int .i64 8)))])
 .ret)
 (.seq
 (.reg false [0, 3, 5, 28] [
 qM 29 0, qK 30 29, qF 31 1 30, qL 32 31, oQ 33 (.len false (.t 32)), oQ 34 (.bin .geq (.t 33) (.c (.int .i64 500))), qM 28 34])
 (.cond (.t 28)
 (.seq
 (.reg false [4] [
 oQ 4 (.mov (.c (.int .i64 6)))])
 .ret)
 .skip)))))))
 (.seq
 (.reg false [0, 3, 5] [
 qA 35 3 3, oQ 36 (.call (.c (.fn (.func 45) [] [])) [(.t 35)]), oN (.store 3 (.t 3) (.t 36))])
 (.seq
 (.mult [0, 3] [
 (0, qM 37 0), (0, qM 38 0), (0, qK 39 38), (0, qF 40 1 39), (0, qL 41 40), (0, qM 42 5), (0, qA 43 3 3), (2, oQ 44 (.eff (.bsR 3) [(.t 43)])), (2, oQ 45 (.call (.c (.fn (.func 50) [] [])) [(.t 41), (.t 42), (.t 44)])), (0, qK 46 37), (0, qF 47 1 46), (1, oN (.store 1 (.t 47) (.t 45)))])
 (.seq
 (.reg false [] [
 qM 48 0, qA 49 3 3, oQ 50 (.call (.c (.fn (.func 51) [] [])) [(.t 48), (.t 49)])])
 (.seq
 (.reg false [4] [
 oQ 4 (.mov (.c (.int .i64 0)))])
 .ret))))))))
def rc_p_index_Index_Delete : RC :=
 (.seq
 (.reg false [2, 3, 4] [
 oQ 2 (.box (.t 0)), oQ 3 (.box (.t 1)), oQ 4 (.mov (.c (.bool false)))])
 (.seq
 (.seq
 (.reg false [2, 3, 4, 11] [
 qL 10 2, oQ 11 (.more (.eqP false) [(.t 10), (.c .nptr)])])
 (.cond (.t 11)
 (.seq
 (.reg false [4] [
 oQ 4 (.mov (.c (.bool false)))])
 .ret)
 .skip))
 (.seq
 (.reg false [2, 3, 4, 5, 6] [
 qL 13 2, qL 14 3, oQ 15 (.call (.c (.fn (.func 48) [] [])) [(.t 13), (.t 14)]), qM 12 15, oQ 16 (.ext 0 (.t 12)), oQ 17 (.ext 1 (.t 12)), qM 5 16, qM 6 17])
 (.seq
 (.seq
 (.reg false [2, 3, 4, 5, 19] [
 qM 18 6, oQ 19 (.un .not (.t 18))])
 (.cond (.t 19)
 (.seq
 (.reg false [4] [
 oQ 4 (.mov (.c (.bool false)))])
 .ret)
 .skip))
 (.seq
 (.seq
 (.mult [2, 3, 4, 5, 29] [
 (0, qL 20 2), (0, qL 21 2), (0, qK 22 21), (0, qF 23 1 22), (0, qL 24 23), (0, qM 25 5), (0, qI 26 3 24 25), (0, qF 27 1 26), (0, qA 28 2 27), (1, oQ 29 (.call (.c (.fn (.func 53) [] [])) [(.t 20), (.t 28)]))])
 (.block 0
 (.range (.t 29) [30, 31]
 (.seq
 (.reg false [2, 3, 7, 31] [
 qM 7 30])
 (.reg false [2, 3, 7, 8] [
 qM 8 31]))
 (.block 1
 (.seq
 (.reg false [2, 7, 8, 9] [
 qL 32 2, qK 33 32, qF 34 2 33, qL 35 34, qM 36 7, qI 37 1 35 36, qL 38 37, qM 39 8, oQ 40 (.eff (.tab .get) [(.t 38), (.t 39)]), oQ 41 (.mkfn (.func 55) [] [(.t 3)]), oQ 42 (.call (.c (.fn (.func 54) [] [])) [(.t 40), (.t 41)]), qM 9 42])
 (.seq
 (.reg false [2, 7, 8, 9, 45] [
 qM 43 9, oQ 44 (.len false (.t 43)), oQ 45 (.bin .eql (.t 44) (.c (.int .i64 0)))])
 (.cond (.t 45)
 (.reg false [] [
 qL 46 2, qK 47 46, qF 48 2 47, qL 49 48, qM 50 7, qI 51 1 49 50, qL 52 51, qM 53 8, oN (.eff (.tab .del) [(.t 52), (.t 53)])])
 (.reg false [] [
 qL 54 2, qK 55 54, qF 56 2 55, qL 57 56, qM 58 7, qI 59 1 57 58, qL 60 59, qM 61 8, qM 62 9, oN (.eff (.tab .put) [(.t 60), (.t 61), (.t 62)])]))))))))
 (.seq
 (.mult [] [
 (0, qL 63 2), (0, qL 64 2), (0, qK 65 64), (0, qF 66 1 65), (0, qL 67 66), (0, qM 68 5), (0, qM 69 5), (0, oQ 70 (.bin .add (.t 69) (.c (.int .i64 1)))), (2, oQ 71 (.call (.c (.fn (.func 56) [] [])) [(.t 67), (.t 68), (.t 70)])), (0, qK 72 63), (0, qF 73 1 72), (1, oN (.store 1 (.t 73) (.t 71)))])
 (.seq
 (.reg false [4] [
 oQ 4 (.mov (.c (.bool true)))])
 .ret)))))))
def rc_p_index_Index_Find : RC :=
 (.seq
 (.reg false [0, 1, 2] [
 oQ 6 (.mov (.c (.sl .full [])))])
 (.seq
 (.seq
 (.reg false [0, 1, 2, 35] [
 qM 7 0, oQ 8 (.more (.eqP false) [(.t 7), (.c .nptr)]), qM 9 8, oG 10 9 false (.mov (.t 1)), oG 11 9 false (.bin .lss (.t 10) (.c (.int .i64 0))), oQ 12 (.pick (.t 9) (.c (.bool true)) (.t 11)), qM 13 12, oG 14 13 false (.mov (.t 1)), oG 15 13 false (.mov (.t 0)), oG 16 13 false (.nilck (.t 15)), oG 17 13 false (.fptr 0 (.t 16)), oG 18 13 false (.load false 1 (.t 17)), oG 19 13 false (.len false (.t 18)), oG 20 13 false (.bin .geq (.t 14) (.t 19)), oQ 21 (.pick (.t 13) (.c (.bool true)) (.t 20)), qM 22 21, oG 23 22 false (.mov (.t 2)), oG 24 22 false (.len false (.t 23)), oG 25 22 false (.mov (.t 0)), oG 26 22 false (.nilck (.t 25)), oG 27 22 false (.fptr 0 (.t 26)), oG 28 22 false (.load false 1 (.t 27)), oG 29 22 false (.mov (.t 1)), oG 30 22 false (.idx 3 (.t 28) (.t 29)), oG 31 22 false (.fptr 2 (.t 30)), oG 32 22 false (.load false 1 (.t 31)), oG 33 22 false (.len false (.t 32)), oG 34 22 false (.bin .neq (.t 24) (.t 33)), oQ 35 (.pick (.t 22) (.c (.bool true)) (.t 34))])
 (.cond (.t 35)
 (.seq
 (.reg false [6] [
 oQ 6 (.mov (.c (.sl .full [])))])
 .ret)
 .skip))
 (.seq
 (.mult [6] [
 (0, qM 36 0), (0, qK 37 36), (0, qF 38 2 37), (0, qL 39 38), (0, qM 40 1), (0, qI 41 1 39 40), (0, qL 42 41), (0, qM 43 2), (0, oQ 44 (.call (.c (.fn (.func 47) [] [])) [(.t 43)])), (1, oQ 45 (.eff (.tab .get) [(.t 42), (.t 44)])), (1, oQ 46 (.call (.c (.fn (.func 44) [] [])) [(.t 45)])), (0, oQ 6 (.take 46))])
 .ret)))
def rc_p_index_Index_Items : RC :=
 (.seq
 (.reg false [0] [
 oQ 2 (.mov (.c (.sl .full [])))])
 (.seq
 (.seq
 (.reg false [0, 7] [
 qM 6 0, oQ 7 (.more (.eqP false) [(.t 6), (.c .nptr)])])
 (.cond (.t 7)
 (.seq
 (.reg false [2] [
 oQ 2 (.mov (.c (.sl .full [])))])
 .ret)
 .skip))
 (.seq
 (.reg false [0, 3] [
 oQ 3 (.mov (.c (.sl .full [])))])
 (.seq
 (.seq
 (.reg false [3, 11, 12, 13] [
 qM 8 0, qK 9 8, qF 10 1 9, qL 11 10, oQ 12 (.len false (.t 11)), oQ 13 (.mov (.c (.int .i64 0)))])
 (.block 0
 (.loop
 (.seq
 (.reg false [3, 11, 12, 13, 14] [
 oQ 14 (.bin .lss (.t 13) (.t 12))])
 (.seq
 (.cond (.t 14)
 .skip
 (.exit 0))
 (.seq
 (.block 1
 (.seq
 (.reg false [3, 5, 11, 12, 13] [
 qI 15 3 11 13, qA 16 3 15, oQ 5 (.box (.c (.agg [(.int .i64 0), (.str ⟨⟨[]⟩⟩), (.sl .full [])]))), oN (.store 3 (.t 5) (.t 16))])
 (.reg false [3, 11, 12, 13] [
 qM 17 3, qA 18 3 5, oQ 19 (.call (.c (.fn (.func 45) [] [])) [(.t 18)]), oQ 20 (.bslice 3 [(.t 19)]), oQ 21 (.append 3 (.t 17) (.t 20)), qM 3 21])))
 (.reg false [3, 11, 12, 13] [
 oQ 22 (.bin .add (.t 13) (.c (.int .i64 1))), qM 13 22])))))))
 (.seq
 (.reg false [2] [
 qM 23 3, qM 2 23])
 .ret)))))
def rc_slices_BinarySearchFunc_api_Item_api_Item_int : RC :=
 (.seq
 (.reg false [0, 1, 2] [
 oQ 6 (.mov (.c (.int .i64 0))), oQ 7 (.mov (.c (.bool false)))])
 (.seq
 (.reg false [0, 1, 2, 8] [
 qM 12 0, oQ 13 (.len false (.t 12)), qM 8 13])
 (.seq
 (.reg false [0, 1, 2, 8, 9, 10] [
 qM 14 8, oQ 9 (.mov (.c (.int .i64 0))), qM 10 14])
 (.seq
 (.block 0
 (.loop
 (.seq
 (.seq
 (.reg false [0, 1, 2, 8, 9, 10, 17] [
 qM 15 9, qM 16 10, oQ 17 (.bin .lss (.t 15) (.t 16))])
 (.cond (.t 17)
 .skip
 (.exit 0)))
 (.block 1
 (.seq
 (.reg false [0, 1, 2, 8, 9, 10, 11] [
 qM 18 9, qM 19 10, oQ 20 (.bin .add (.t 18) (.t 19)), oQ 21 (.conv (some .u64) (.t 20)), oQ 22 (.bin .shr (.t 21) (.c (.int .u64 1))), oQ 23 (.conv (some .i64) (.t 22)), qM 11 23])
 (.seq
 (.reg false [0, 1, 2, 8, 9, 10, 11, 31] [
 qM 24 2, qM 25 0, qM 26 11, qI 27 3 25 26, qA 28 3 27, qM 29 1, oQ 30 (.callv (.t 24) [(.t 28), (.t 29)]), oQ 31 (.bin .lss (.t 30) (.c (.int .i64 0)))])
 (.cond (.t 31)
 (.reg false [0, 1, 2, 8, 9, 10] [
 qM 32 11, oQ 33 (.bin .add (.t 32) (.c (.int .i64 1))), qM 9 33])
 (.reg false [0, 1, 2, 8, 9, 10] [
 qM 34 11, qM 10 34]))))))))
 (.seq
 (.reg false [6, 7] [
 qM 35 9, qM 36 9, qM 37 8, oQ 38 (.bin .lss (.t 36) (.t 37)), qM 39 38, oG 40 39 true (.mov (.t 2)), oG 41 39 true (.mov (.t 0)), oG 42 39 true (.mov (.t 9)), oG 43 39 true (.idx 3 (.t 41) (.t 42)), oG 44 39 true (.load true 3 (.t 43)), oG 45 39 true (.mov (.t 1)), oG 46 39 true (.callv (.t 40) [(.t 44), (.t 45)]), oG 47 39 true (.bin .eql (.t 46) (.c (.int .i64 0))), oQ 48 (.pick (.t 39) (.t 47) (.c (.bool false))), qM 6 35, qM 7 48])
 .ret)))))
def rc_slices_BinarySearch_int_int : RC :=
 (.seq
 (.reg false [0, 1] [
 oQ 4 (.mov (.c (.int .i64 0))), oQ 5 (.mov (.c (.bool false)))])
 (.seq
 (.reg false [0, 1, 6] [
 qM 10 0, oQ 11 (.len false (.t 10)), qM 6 11])
 (.seq
 (.reg false [0, 1, 6, 7, 8] [
 qM 12 6, oQ 7 (.mov (.c (.int .i64 0))), qM 8 12])
 (.seq
 (.block 0
 (.loop
 (.seq
 (.seq
 (.reg false [0, 1, 6, 7, 8, 15] [
 qM 13 7, qM 14 8, oQ 15 (.bin .lss (.t 13) (.t 14))])
 (.cond (.t 15)
 .skip
 (.exit 0)))
 (.block 1
 (.seq
 (.reg false [0, 1, 6, 7, 8, 9] [
 qM 16 7, qM 17 8, oQ 18 (.bin .add (.t 16) (.t 17)), oQ 19 (.conv (some .u64) (.t 18)), oQ 20 (.bin .shr (.t 19) (.c (.int .u64 1))), oQ 21 (.conv (some .i64) (.t 20)), qM 9 21])
 (.seq
 (.reg false [0, 1, 6, 7, 8, 9, 27] [
 qM 22 0, qM 23 9, qI 24 1 22 23, qL 25 24, qM 26 1, oQ 27 (.call (.c (.fn (.func 155) [] [])) [(.t 25), (.t 26)])])
 (.cond (.t 27)
 (.reg false [0, 1, 6, 7, 8] [
 qM 28 9, oQ 29 (.bin .add (.t 28) (.c (.int .i64 1))), qM 7 29])
 (.reg false [0, 1, 6, 7, 8] [
 qM 30 9, qM 8 30]))))))))
 (.seq
 (.reg false [4, 5] [
 qM 31 7, qM 32 7, qM 33 6, oQ 34 (.bin .lss (.t 32) (.t 33)), qM 35 34, oG 36 35 true (.mov (.t 0)), oG 37 35 true (.mov (.t 7)), oG 38 35 true (.idx 1 (.t 36) (.t 37)), oG 39 35 true (.load false 1 (.t 38)), oG 40 35 true (.mov (.t 1)), oG 41 35 true (.bin .eql (.t 39) (.t 40)), oG 42 35 true (.mov (.t 41)), oG 43 42 false (.mov (.t 0)), oG 44 42 false (.mov (.t 7)), oG 45 42 false (.idx 1 (.t 43) (.t 44)), oG 46 42 false (.load false 1 (.t 45)), oG 47 42 false (.call (.c (.fn (.func 156) [] [])) [(.t 46)]), oG 48 42 false (.mov (.t 47)), oG 49 48 true (.mov (.t 1)), oG 50 48 true (.call (.c (.fn (.func 156) [] [])) [(.t 49)]), oG 51 42 false (.pick (.t 48) (.t 50) (.c (.bool false))), oG 52 35 true (.pick (.t 42) (.c (.bool true)) (.t 51)), oQ 53 (.pick (.t 35) (.t 52) (.c (.bool false))), qM 4 31, qM 5 53])
 .ret)))))
theorem op_slices_BinarySearch_int_int (hn : vals.length ≤ 54) (h : SP Tryz.prog true vals bs rc_slices_BinarySearch_int_int [.slot 4, .slot 5] Q) : AM.Sem Tryz.prog 105 vals bs Q :=
 Sem.nrm (Sem.of (fn := Tryz.f105) (keeps := [(0, [0, 1]), (1, [0, 1, 6]), (2, [0, 1, 6, 7, 8]), (3, [0, 1, 6, 7, 8, 15]), (4, [0, 1, 6, 7, 8, 9]), (5, [0, 1, 6, 7, 8, 9, 27]), (7, [0, 1, 6, 7, 8]), (6, [0, 1, 6, 7, 8]), (8, [4, 5])]) (solo := []) Tryz.func105 rfl (by kernel_rfl) (by kernel_rfl) (by kernel_rfl) hn (run_gp h))
theorem opS_p_index_Index_keys (hn : vals.length ≤ 6) (h : SP Tryz.prog false vals bs rc_p_index_Index_keys [.slot 4] Q) : AM.Sem Tryz.prog 53 vals bs Q :=
 Sem.nrm (Sem.of (fn := Tryz.f53) (keeps := [(0, [2, 3]), (1, [4])]) (solo := []) Tryz.func53 rfl (by kernel_rfl) (by kernel_rfl) (by kernel_rfl) hn (run_gp h))
theorem opS_p_index_Index_keys_1 (hn : vals.length ≤ 55) (h : SP Tryz.prog false vals bs rc_p_index_Index_keys_1 [] Q) : AM.Sem Tryz.prog 108 vals bs Q :=
 Sem.nrm (Sem.of (fn := Tryz.f108) (keeps := [(0, [0, 2, 12, 13, 14]), (1, [0, 2, 12, 13, 14, 15]), (2, [0, 2, 4, 5, 12, 13, 14]), (3, [0, 2, 4, 5, 12, 13, 14, 31]), (4, [0, 2, 4, 5, 6, 12, 13, 14]), (5, [0, 2, 4, 6, 12, 13, 14, 33, 34, 35]), (6, [0, 2, 4, 6, 12, 13, 14, 33, 34, 35, 36]), (7, [0, 2, 4, 6, 8, 12, 13, 14, 33, 34, 35]), (8, [0, 2, 4, 6, 12, 13, 14, 33, 34, 35]), (9, [0, 2, 4, 6, 12, 13, 14, 33, 34, 35]), (10, [0, 2, 12, 13, 14, 53]), (11, [0, 2, 12, 13, 14])]) (solo := []) Tryz.func108 rfl (by kernel_rfl) (by kernel_rfl) (by kernel_rfl) hn (run_gp h))
theorem opS_p_index_Index_enter (hn : vals.length ≤ 45) (h : SP Tryz.prog false vals bs rc_p_index_Index_enter [] Q) : AM.Sem Tryz.prog 51 vals bs Q :=
 Sem.nrm (Sem.of (fn := Tryz.f51) (keeps := [(0, [2, 3]), (1, [2, 3, 12]), (2, [2, 3, 4, 14]), (3, [2, 3, 4, 5]), (4, [2, 3, 4, 5, 6]), (5, [2, 3, 4, 5, 6, 7]), (6, []), (1000000, [43]), (2000006, [0, 1, 2, 3, 4, 5, 6, 7, 8, 9, 10, 11, 12, 13, 14]), (3000006, [0, 0, 0, 0, 0, 0, 0, 0, 0, 0, 0, 0, 2, 2, 1])]) (solo := []) Tryz.func51 rfl (by kernel_rfl) (by kernel_rfl) (by kernel_rfl) hn (run_gp h))
theorem opS_p_index_Index_find (hn : vals.length ≤ 14) (h : SP Tryz.prog false vals bs rc_p_index_Index_find [.slot 4, .slot 5] Q) : AM.Sem Tryz.prog 48 vals bs Q :=
 Sem.nrm (Sem.of (fn := Tryz.f48) (keeps := [(0, [0, 1]), (1, [4, 5])]) (solo := []) Tryz.func48 rfl (by kernel_rfl) (by kernel_rfl) (by kernel_rfl) hn (run_gp h))
theorem opS_p_index_Index_Insert (hn : vals.length ≤ 51) (h : SP Tryz.prog false vals bs rc_p_index_Index_Insert [.slot 4] Q) : AM.Sem Tryz.prog 14 vals bs Q :=
 Sem.nrm (Sem.of (fn := Tryz.f14) (keeps := [(0, [0, 3]), (1, [0, 3, 8]), (2, [4]), (3, [0, 3, 5, 6]), (4, [0, 3, 5, 6, 16]), (6, [0, 3, 5, 26]), (8, [0, 3, 5, 28]), (9, [4]), (7, [4]), (5, [4]), (10, [0, 3, 5]), (11, [0, 3]), (12, []), (13, [4]), (1000000, [44]), (2000011, [0, 1, 2, 3, 4, 5, 6, 7, 8, 9, 10, 11]), (3000011, [0, 0, 0, 0, 0, 0, 0, 2, 2, 0, 0, 1])]) (solo := []) Tryz.func14 rfl (by kernel_rfl) (by kernel_rfl) (by kernel_rfl) hn (run_gp h))
theorem opS_p_index_Index_Delete (hn : vals.length ≤ 74) (h : SP Tryz.prog false vals bs rc_p_index_Index_Delete [.slot 4] Q) : AM.Sem Tryz.prog 16 vals bs Q :=
 Sem.nrm (Sem.of (fn := Tryz.f16) (keeps := [(0, [2, 3, 4]), (1, [2, 3, 4, 11]), (2, [4]), (3, [2, 3, 4, 5, 6]), (4, [2, 3, 4, 5, 19]), (5, [4]), (6, [2, 3, 4, 5, 29]), (7, [2, 3, 7, 31]), (8, [2, 3, 7, 8]), (9, [2, 7, 8, 9]), (10, [2, 7, 8, 9, 45]), (12, []), (11, []), (13, []), (14, [4]), (2000006, [0, 1, 2, 3, 4, 5, 6, 7, 8, 9]), (3000006, [0, 0, 0, 0, 0, 0, 0, 0, 0, 1]), (2000013, [0, 1, 2, 3, 4, 5, 6, 7, 8, 9, 10, 11]), (3000013, [0, 0, 0, 0, 0, 0, 0, 0, 2, 0, 0, 1])]) (solo := []) Tryz.func16 rfl (by kernel_rfl) (by kernel_rfl) (by kernel_rfl) hn (run_gp h))
theorem opS_p_index_Index_Find (hn : vals.length ≤ 47) (h : SP Tryz.prog false vals bs rc_p_index_Index_Find [.slot 6] Q) : AM.Sem Tryz.prog 13 vals bs Q :=
 Sem.nrm (Sem.of (fn := Tryz.f13) (keeps := [(0, [0, 1, 2]), (1, [0, 1, 2, 35]), (2, [6]), (3, [6]), (2000003, [0, 1, 2, 3, 4, 5, 6, 7, 8, 9, 10, 11]), (3000003, [0, 0, 0, 0, 0, 0, 0, 0, 0, 1, 1, 0])]) (solo := []) Tryz.func13 rfl (by kernel_rfl) (by kernel_rfl) (by kernel_rfl) hn (run_gp h))
theorem opS_p_index_Index_Items (hn : vals.length ≤ 24) (h : SP Tryz.prog false vals bs rc_p_index_Index_Items [.slot 2] Q) : AM.Sem Tryz.prog 12 vals bs Q :=
 Sem.nrm (Sem.of (fn := Tryz.f12) (keeps := [(0, [0]), (1, [0, 7]), (2, [2]), (3, [0, 3]), (4, [3, 11, 12, 13]), (5, [3, 11, 12, 13, 14]), (6, [3, 5, 11, 12, 13]), (7, [3, 11, 12, 13]), (8, [3, 11, 12, 13]), (9, [2])]) (solo := []) Tryz.func12 rfl (by kernel_rfl) (by kernel_rfl) (by kernel_rfl) hn (run_gp h))
theorem opS_slices_BinarySearchFunc_api_Item_api_Item_int (hn : vals.length ≤ 49) (h : SP Tryz.prog false vals bs rc_slices_BinarySearchFunc_api_Item_api_Item_int [.slot 6, .slot 7] Q) : AM.Sem Tryz.prog 99 vals bs Q :=
 Sem.nrm (Sem.of (fn := Tryz.f99) (keeps := [(0, [0, 1, 2]), (1, [0, 1, 2, 8]), (2, [0, 1, 2, 8, 9, 10]), (3, [0, 1, 2, 8, 9, 10, 17]), (4, [0, 1, 2, 8, 9, 10, 11]), (5, [0, 1, 2, 8, 9, 10, 11, 31]), (7, [0, 1, 2, 8, 9, 10]), (6, [0, 1, 2, 8, 9, 10]), (8, [6, 7])]) (solo := []) Tryz.func99 rfl (by kernel_rfl) (by kernel_rfl) (by kernel_rfl) hn (run_gp h))
end Go.CK
namespace Go.CK
open Go.AM Go.RowKit Go.Proofs
theorem hp_below {w w' : World} (h : Below w.heap.size w w') : (Hp.of w).le (Hp.of w') := fun b o v hv => by
 have hlt := Hp.lt (Hp.le_refl _) hv; simp only [Hp.of, World.cell?] at hv ⊢; rw [h.block b hlt]; exact hv
theorem Fun.ofCallsT {P : Program} {f : FuncId} {vals : List AV} {t : ByteArray} (ht : t.size ≤ lim) (hf : vals.all AV.flat = true) (h : ∀ (w : World) (args : List Value), Tb w -> args.length = vals.length -> (∀ j (hj : j < vals.length) v, args[j]? = some v -> FV (Hp.of w) vals[j] v) -> Calls P f args.toArray w fun e w' => e = .returned (.string t) ∧ Below w.heap.size w w') : Fun P f vals (.str t) := by
 intro bs E G a0 w args lo hs hl hv; have hfl : ∀ j (hj : j < vals.length), (vals[j]).flat = true := fun j hj => List.all_eq_true.1 hf _ (List.getElem_mem hj); refine (h w args hs.fr.kn.tb hl (fun j hj v hjv => ((hv j hj v hjv).toFV (hfl j hj)).mono hs.ok)).mono ?_; rintro e w' ⟨rfl, hb⟩; have h0 := hs.reAct (callE G bs w 1) ⟨#[.string t], []⟩ (Fr.refl _ _ _ hs.fr.kn) rfl bs.length rfl (Nat.le_refl _) (fun _ _ => rfl) (fun B hB => .inl hB) rfl; have h1 := h0.grow (M' := G.M) (w' := w') ⟨hb.os, hb.tape, hb.output, hb.size, Hp.le_refl _, fun B hB _ => hb.block B hB, fun _ _ _ _ => rfl⟩ (Hp.le_trans hs.ok (hp_below hb)); refine ⟨_, _, _, _, rfl, ⟨rfl, rfl⟩, h1.put (k := 0) Nat.zero_lt_one (x := .str t) (.flat (.str t ht))⟩
def txtB (key : List Tm) : ByteArray := ⟨(txtL key).toArray⟩
theorem text_ok {key : List Tm} (hio : Tm.ios key) (hlen : (txtL key).length ≤ 100000000) : Fun Tryz.prog 47 [slA Tm.av key] (.str (txtB key)) := by
 refine Fun.ofCallsT (by simp [txtB, ByteArray.size, lim]; omega) rfl fun w args ht hl hv => ?_
 match args, hl with
 | [v], _ => exact text_w ht hio (hv 0 (by simp) v rfl) hlen
def tmA : Option Tm -> AV
 | some t => t.avw
 | none => .agg [.top, .top, .top, .top]
theorem plainTmA : Plain tmA 4 := by
 refine ⟨by decide, fun x => by cases x <;> rfl, fun x c h => ?_, fun x c h => ?_⟩
 ·cases x <;> (simp [tmA, Tm.avw, AV.cells] at h; rcases h with rfl | rfl | rfl | rfl <;> rfl)
 ·cases x <;> (simp [tmA, Tm.avw, AV.cells] at h; rcases h with rfl | rfl | rfl | rfl <;> rfl)
theorem tmA_some (l : List Tm) : (l.map some).map tmA = l.map Tm.av := by
 rw [List.map_map]; exact List.map_congr_left fun t _ => (Tm.av_w t).symm
set_option maxRecDepth 100000 in
theorem cloneT_ok {l : List Tm} (hl : l.length ≤ 4294967296) : AM.Sem Tryz.prog 150 [.sl .no (l.map Tm.av)] [] fun r bs' => ∃ k, l.length ≤ k ∧ r = .bsl 0 l.length k ∧ bs' = [rowF tmA 4 k (l.map some)] := by
 refine op_slices_Clone_api_Term_api_Term (by simp) ?_
 conv => whnf
 skip; refine NilN.no fun b hb => ?_
 conv => whnf
 repeat' ((refine gC ?_; refine CondN.any (fun hc => ?_) (fun hc => ?_)) <;> conv => whnf)
 ·have hl0 : l = [] := by simpa using hb hc
  subst hl0; exact RetP.toRow 2 rfl (RetP.slot ⟨0, Nat.le_refl _, rfl, rfl⟩)
 ·rw [← tmA_some]; refine AppN.nilRow (l' := l.map some) plainTmA (by rw [List.length_map]; exact hl) fun k hk => ?_
  conv => whnf
  skip; rw [List.length_map] at hk; exact RetP.slot ⟨k, hk, by simp [St.get, envGet], rfl⟩
theorem upd_id {α : Type} {l : List α} {j : Nat} {x : α} (hx : l[j]? = some x) : (l.map some)[j]? = some (some x) ∧ (l.map some).set j (some x) = l.map some := by
 have h1 : (l.map some)[j]? = some (some x) := by rw [List.getElem?_map, hx]; rfl
 refine ⟨h1, List.ext_getElem? fun i => ?_⟩
 by_cases e : j = i
 ·subst e; rw [List.getElem?_set_self (List.getElem?_eq_some_iff.1 h1).1, h1]
 ·rw [List.getElem?_set_ne e]
mutual
def cnT : Tm → Nat
 | .mk _ _ _ l => 1 + cnL l
def cnL : List Tm → Nat
 | [] => 0
 | t :: r => cnT t + cnL r
end
theorem cn_one (t : Tm) : 1 ≤ cnT t := by
 cases t; rw [cnT]; omega
theorem cn_len : ∀ l : List Tm, l.length ≤ cnL l
 | [] => Nat.zero_le _
 | t :: r => by have := cn_len r; have := cn_one t; rw [cnL, List.length_cons]; omega
theorem cn_mem : ∀ {l : List Tm} {x : Tm}, x ∈ l → cnT x ≤ cnL l
 | t :: r, x, h => by
  rw [cnL]; rcases List.mem_cons.1 h with rfl | h
  · omega
  · have := cn_mem h; omega
mutual
theorem wgh_cn : ∀ (t : Tm) (left deep : Int), 0 ≤ t.wgh left deep → ((cnT t : Nat) : Int) ≤ left - t.wgh left deep
 | .mk k n s l, left, deep, h => by
  rw [Tm.wgh] at h ⊢; have h8 := tdiv8 s.size; split at h
  · omega
  · rename_i hc; rw [if_neg hc]; have := wghs_cn l (left - 1 - (s.size : Int).tdiv 8) (deep - 1) (by omega) h; rw [cnT]; omega
theorem wghs_cn : ∀ (l : List Tm) (left deep : Int), 0 ≤ left → 0 ≤ Tm.wghs l left deep → ((cnL l : Nat) : Int) ≤ left - Tm.wghs l left deep
 | [], left, deep, _, h => by simp only [Tm.wghs, cnL]; omega
 | t :: r, left, deep, h0, h => by
  rw [Tm.wghs, if_neg (by omega)] at h ⊢
  by_cases h3 : 0 ≤ t.wgh left deep
  · have h4 := wgh_cn t left deep h3; have h5 := wghs_cn r (t.wgh left deep) deep h3 h; rw [cnL]; omega
  · rw [wghs_neg _ (by omega)] at h; omega
end
theorem weigh_cn {l : List Tm} {left deep : Int} (h : 0 ≤ weighI l left deep) : ((cnL l : Nat) : Int) ≤ left := by
 unfold weighI at h; split at h
 · omega
 · rename_i hc; have := wghs_cn l left deep (by omega) h; omega
set_option maxRecDepth 100000 in
theorem copied_of {t : Tm} (hL : t.args.length ≤ 4000000000) (ih : ∀ x ∈ t.args, Fun Tryz.prog 96 [x.avw] x.avw) : Fun Tryz.prog 96 [t.avw] t.avw := by
 refine Fun.of (Sem.assume fun hg0 _ => ?_) rfl rfl; have hg : t.args.length ≤ 4294967296 := by omega
 refine op_index_copied (by simp) ?_
 conv => whnf
 skip; refine CallN.at [] (cloneT_ok (l := t.args) (by omega)) rfl rfl ?_ oko ?_
 ·rintro r bs' ⟨k, hk, rfl, rfl⟩; exact ⟨rfl, rfl, oko⟩
 rintro r bs' ⟨k, hk, rfl, rfl⟩
 conv => whnf
 skip; refine LoopP.by (fb := true) (fun _ (j : Nat) => ⟨[(1, .ptr 0 0), (2, .ptr 1 0), (10, .bsl 2 t.args.length k), (11, .int .i64 (t.args.length : Int)), (12, .int .i64 (j : Int))], [.cells [.int .i64 t.kind, .int .i64 t.num, .str t.name, .bsl 2 t.args.length k], .cells [.int .i64 0, .int .i64 0, .str ⟨⟨[]⟩⟩, .sl .full []], rowF tmA 4 k (t.args.map some)], 0⟩) (fun j => j ≤ t.args.length) (fun j => t.args.length - j) 0 (Nat.zero_le _) ?_ ?_
 ·exact endz
 ·rintro j q1
  by_cases hj : j < t.args.length
  ·obtain ⟨x, hx⟩ : ∃ x, t.args[j]? = some x := ⟨_, List.getElem?_eq_getElem hj⟩; obtain ⟨u1, u2⟩ := upd_id hx; have hx1 := ih x (List.mem_of_getElem? hx)
   conv => whnf
   repeat' ((first | (refine gC ?_; (refine gD ?_; refine cI ?_)) | (refine gN ?_; refine nS ?_)) <;> conv => whnf)
   refine ElN.elem plainTmA rfl u1 ?_
   conv => whnf
   repeat' ((first | (refine gG ?_; refine CallP.fn (hx1) ?_) | (refine gN ?_; refine nS ?_)) <;> conv => whnf)
   refine EsN.elem plainTmA (fun x => by cases x <;> rfl) (x := some x) (y := some x) rfl u1 rfl ?_
   conv => whnf
   repeat' ((refine gW ?_; refine wI ?_) <;> conv => whnf)
   refine ⟨j + 1, ⟨hj, by omega⟩, ?_⟩
   rw [Int.toNat_natCast, u2]; refine EndN.lay [some 0, some 1, some 2] oko ?_
   conv => whnf
   exact endz
  ·obtain rfl : j = t.args.length := by omega
   conv => whnf
   repeat' ((refine gC ?_; (refine gD ?_; refine cJ ?_)) <;> conv => whnf)
   refine RetP.frozeBx plainTmA 1 3 (b := 2) (l := t.args.map some) rfl rfl rfl (by simp) ?_
   rw [List.take_of_length_le (by simp), tmA_some]
   conv => whnf
   conv => whnf
   repeat' (refine RetP.nrm ?_ <;> conv => whnf)
   rfl
theorem copied_ok (t : Tm) : cnT t ≤ 2000000 → Fun Tryz.prog 96 [t.avw] t.avw := by
 induction t using Tm.ind_all with
 | h k n s l ih =>
  intro hN; rw [cnT] at hN; have h1 := cn_len l
  exact copied_of (t := .mk k n s l) (by show l.length ≤ _; omega) fun x hx => ih x hx (by have := cn_mem (l := l) hx; omega)
set_option maxRecDepth 100000 in
theorem own_ok (i : It) (hN : cnL i.atom.args ≤ 1000000) : Fun Tryz.prog 45 [i.av] i.av := by
 have h : Fun Tryz.prog 96 [.agg [.int .i64 0, .int .i64 0, .str ⟨⟨[]⟩⟩, .sl .no (i.atom.args.map Tm.av)]] (.agg [.int .i64 0, .int .i64 0, .str ⟨⟨[]⟩⟩, .sl .no (i.atom.args.map Tm.av)]) := copied_ok (.mk 0 0 ⟨⟨[]⟩⟩ i.atom.args) (by rw [cnT]; omega); refine Fun.of (op_index_own (by simp) ?_) rfl rfl
 conv => whnf
 conv => whnf
 repeat' ((first | (refine gF ?_; refine CallN.fn (h) ?_) | refine RetP.nrm ?_) <;> conv => whnf)
 rfl
end Go.CK
namespace Go.CK
open Go.AM Go.Proofs
def Ac.has (c : Ac) (s : ByteArray) (args : List Tm) : Bool := decide (c.name = s) && decide (c.arity = args.length)
def tm0 : Tm := .mk 0 0 ⟨#[]⟩ []
def keyOf (c : Ac) (args : List Tm) : List Tm := c.positions.map fun p => args.getD p.toNat tm0
def posIn (c : Ac) (args : List Tm) : Prop := ∀ p ∈ c.positions, 0 ≤ p ∧ p < args.length
theorem keyOf_ios {c : Ac} {args : List Tm} (h : Tm.ios args) (hp : posIn c args) : Tm.ios (keyOf c args) := Tm.ios_mem.2 fun t ht => by
 obtain ⟨p, hpm, rfl⟩ := List.mem_map.1 ht; obtain ⟨h0, h1⟩ := hp p hpm; have hlt : p.toNat < args.length := by omega
 refine Tm.ios_mem.1 h _ ?_; simp [List.getD, List.getElem?_eq_getElem hlt]
set_option maxRecDepth 100000 in
theorem ixKeys_ok {bs : List Box} {p : Nat} {s : ByteArray} {args : List Tm} : AM.Sem Tryz.prog 53 [.ptr p 0, .agg [.str s, .sl .no (args.map Tm.av)]] bs fun r bs' => r = .fn (.func 108) [] [.ptr bs.length 0, .ptr (bs.length + 1) 0] ∧ bs' = bs ++ [.cells [.ptr p 0]] ++ [.cells [.str s, .sl .no (args.map Tm.av)]] := by
 refine opS_p_index_Index_keys (by simp) ?_
 conv => whnf
 try dsimp only
 skip; have e : (bs ++ [Box.cells [AV.ptr p 0]]).length = bs.length + 1 := by simp
 rw [e]; exact ⟨_, Weak.refl _, .inl ⟨rfl, rfl⟩⟩
structure KeyInv (bs0 : List Box) (n q1 q2 p : Nat) (acc : List Ac) (s : ByteArray) (args : List Tm) (J : Nat -> List Box -> Prop) : Prop where
 x : ∀ j bs, J j bs -> bs[q1]? = some (.cells [.ptr p 0])
 a : ∀ j bs, J j bs -> bs[q2]? = some (.cells [.str s, .sl .no (args.map Tm.av)])
 p : ∀ j bs, J j bs -> ∃ I T, bs[p]? = some (.cells [slA Ac.av acc, I, T])
 snoc : ∀ j bs b, J j bs -> J j (bs ++ [b])
 skip : ∀ j bs c, J j bs -> acc[j]? = some c -> c.has s args = false -> J (j + 1) bs
 act : ∀ j bs c, J j bs -> acc[j]? = some c -> c.has s args = true -> SemY Tryz.prog n [.int .i64 (j : Int), .str (txtB (keyOf c args))] bs fun r bs' => r = .bool true ∧ J (j + 1) bs'
set_option maxRecDepth 100000 in
theorem ixKeys1_ok {bs : List Box} {n q1 q2 p : Nat} {acc : List Ac} {s : ByteArray} {args : List Tm} {J : Nat -> List Box -> Prop} (hJ : KeyInv bs n q1 q2 p acc s args J) (h0 : J 0 bs) (hio : Tm.ios args) (hpos : ∀ c ∈ acc, c.has s args = true -> posIn c args) (hlen : ∀ c ∈ acc, c.has s args = true -> (txtL (keyOf c args)).length ≤ 100000000) (hacc : acc.length ≤ 1000000) (hpl : ∀ c ∈ acc, c.positions.length ≤ 1000000) :
  AM.Sem Tryz.prog 108 [.yl n, .ptr q1 0, .ptr q2 0] bs fun r bs' => r = .tup [] ∧ J acc.length bs' := by
 refine opS_p_index_Index_keys_1 (by simp) ?_
 conv => whnf
 try dsimp only
 skip; refine BxAt.of (cs := [.ptr p 0]) (by simp [boxCells, hJ.x _ _ h0, Box.cs?]) ?_
 conv => whnf
 try dsimp only
 skip; obtain ⟨I0, T0, hp0⟩ := hJ.p _ _ h0; refine BxAt.of (cs := [slA Ac.av acc, I0, T0]) (by simp [boxCells, hp0, Box.cs?]) ?_
 conv => whnf
 try dsimp only
 repeat' ((refine gL ?_; refine .map ?_) <;> (conv => whnf; try dsimp only))
 refine LoopP.by (fb := false) (fun _ (a : Nat × List Box) => ⟨[(0, .yl n), (2, .ptr q2 0), (12, .sl .no (acc.map Ac.av)), (13, .int .i64 (acc.length : Int)), (14, .int .i64 (a.1 : Int))], a.2, bs.length⟩) (fun a => a.1 ≤ acc.length ∧ J a.1 a.2) (fun a => acc.length - a.1) (0, bs) ⟨Nat.zero_le _, h0⟩ ?_ ?_
 ·refine EndN.atS ?_ rfl rfl
  conv => whnf
  repeat' ((first | (refine gV ?_; first | refine vE ?_ | refine vI ?_) | exact True.intro) <;> conv => whnf)
 ·rintro ⟨j, b2⟩ ⟨q1', hj⟩; dsimp only at q1' hj
  by_cases hlt : j < acc.length
  ·obtain ⟨c, hc⟩ : ∃ c, acc[j]? = some c := ⟨_, List.getElem?_eq_getElem hlt⟩; have hcm := List.mem_of_getElem? hc; have hq2 := hJ.a _ _ hj; have hB3 := hJ.snoc j b2 (.cells [AV.str c.name, AV.int IntKind.i64 c.arity, AV.sl Cap.no (List.map intA c.positions)]) hj; have hQc : boxCells (b2 ++ [Box.cells [AV.str c.name, AV.int IntKind.i64 c.arity, AV.sl Cap.no (List.map intA c.positions)]]) b2.length = some [AV.str c.name, AV.int IntKind.i64 c.arity, AV.sl Cap.no (List.map intA c.positions)] := by simp [boxCells, Box.cs?]
   conv => whnf
   try dsimp only
   repeat' ((first | (refine gC ?_; (refine gD ?_; refine cI ?_)) | (refine gI ?_; (refine gM ?_; refine iE ?_)) | (refine gB ?_; refine .last ?_) | refine BxSet.last ?_) <;> (conv => whnf; try dsimp only))
   obtain ⟨B3, hB⟩ : ∃ B3, B3 = b2 ++ [Box.cells [AV.str c.name, AV.int IntKind.i64 c.arity, AV.sl Cap.no (List.map intA c.positions)]] := ⟨_, rfl⟩; rw [← hB] at hB3 hQc ⊢; clear hB; have hQ2 : boxCells B3 q2 = some [AV.str s, .sl .no (args.map Tm.av)] := by simp [boxCells, hJ.a _ _ hB3, Box.cs?]
   by_cases hn : c.name = s
   ·by_cases ha : c.arity = args.length
    ·have hh : c.has s args = true := by simp [Ac.has, hn, ha]
     have hpc := hpos c hcm hh; have hcl := hpl c hcm
     conv => whnf
     try dsimp only
     repeat' ((first | (refine gC ?_; first | refine .not ?_ | (refine gD ?_; refine cI ?_)) | (refine gL ?_; refine .map ?_) | (refine gB ?_; refine .of (by assumption) ?_)) <;> (conv => whnf; try dsimp only))
     refine LoopP.by (fb := false) (fun _ (i : Nat) => ⟨[(0, .yl n), (2, .ptr q2 0), (4, .int .i64 (j : Int)), (6, .sl (.own 4) (((c.positions.take i).map fun p => args.getD p.toNat tm0).map Tm.av)), (12, .sl .no (acc.map Ac.av)), (13, .int .i64 (acc.length : Int)), (14, .int .i64 (j : Int)), (33, .sl .no (c.positions.map intA)), (34, .int .i64 (c.positions.length : Int)), (35, .int .i64 (i : Int))], B3, bs.length⟩) (fun i => i ≤ c.positions.length) (fun i => c.positions.length - i) 0 (Nat.zero_le _) ?_ ?_
     ·rw [List.take_zero]; refine EndN.atS ?_ rfl rfl
      conv => whnf
      repeat' ((first | (refine gV ?_; first | refine vE ?_ | refine vI ?_ | ((refine gK ?_; refine vD ?_ ?_); (focus (simp [AV.norm, AV.norm1, ]; done)))) | exact True.intro) <;> conv => whnf)
     ·intro i hi
      by_cases hil : i < c.positions.length
      ·obtain ⟨y, hy⟩ : ∃ y, c.positions[i]? = some y := ⟨_, List.getElem?_eq_getElem hil⟩; obtain ⟨hy0, hy1⟩ := hpc y (List.mem_of_getElem? hy); obtain ⟨x, hx⟩ : ∃ x, args[y.toNat]? = some x := ⟨_, List.getElem?_eq_getElem (by omega)⟩
       have htk : ((c.positions.take (i + 1)).map fun p => args.getD p.toNat tm0).map Tm.av = ((c.positions.take i).map fun p => args.getD p.toNat tm0).map Tm.av ++ [.agg [.int .i64 x.kind, .int .i64 x.num, .str x.name, .sl .no (x.args.map Tm.av)]] := by
        rw [List.take_add_one, hy]; simp [hx, Tm.av_w, Tm.avw]
       conv => whnf
       try dsimp only
       repeat' ((first | (refine gC ?_; (refine gD ?_; refine cI ?_)) | (refine gW ?_; refine wI ?_) | (refine gN ?_; refine nS ?_) | (refine gI ?_; first | (refine gT ?_; refine iB ?_) | (refine gM ?_; refine iE ?_)) | (refine gB ?_; refine .of (by assumption) ?_)) <;> (conv => whnf; try dsimp only))
       refine ⟨i + 1, ⟨hil, by omega⟩, ?_⟩
       rw [htk]; refine EndN.atS ?_ rfl rfl
       conv => whnf
       repeat' ((first | (refine gV ?_; first | refine vE ?_ | refine vI ?_) | exact True.intro) <;> conv => whnf)
      ·obtain rfl : i = c.positions.length := by omega
       rw [List.take_length]; have htx := text_ok (keyOf_ios hio hpc) (hlen c hcm hh)
       conv => whnf
       try dsimp only
       repeat' ((first | (refine gF ?_; refine CallN.fn (htx) ?_) | (refine gC ?_; (refine gD ?_; refine cJ ?_))) <;> (conv => whnf; try dsimp only))
       refine YieldN.of (hJ.act _ _ _ hB3 hc hh) ?_; rintro r b4 ⟨rfl, hB4⟩
       conv => whnf
       try dsimp only
       repeat' ((first | (refine gC ?_; first | refine cY ?_ | refine .not ?_) | (refine gW ?_; refine wI ?_)) <;> (conv => whnf; try dsimp only))
       refine ⟨(j + 1, b4), ⟨⟨hlt, hB4⟩, by dsimp only; omega⟩, ?_⟩
       refine EndN.atS ?_ rfl rfl
       conv => whnf
       repeat' ((first | (refine gV ?_; first | refine vE ?_ | refine vI ?_) | exact True.intro) <;> conv => whnf)
    ·have hh : c.has s args = false := by simp [Ac.has, hn, ha]
     conv => whnf
     try dsimp only
     repeat' ((first | (refine gC ?_; first | refine .not ?_ | (refine gD ?_; first | refine cI ?_ | refine cJ ?_)) | (refine gW ?_; refine wI ?_) | (refine gL ?_; refine .map ?_) | (refine gB ?_; refine .of (by assumption) ?_)) <;> (conv => whnf; try dsimp only))
     refine ⟨(j + 1, B3), ⟨⟨hlt, hJ.skip _ _ _ hB3 hc hh⟩, by dsimp only; omega⟩, ?_⟩
     refine EndN.atS ?_ rfl rfl
     conv => whnf
     repeat' ((first | (refine gV ?_; first | refine vE ?_ | refine vI ?_) | exact True.intro) <;> conv => whnf)
   ·have hh : c.has s args = false := by simp [Ac.has, hn]
    conv => whnf
    try dsimp only
    repeat' ((first | (refine gC ?_; first | refine cY ?_ | refine .not ?_ | (refine gD ?_; refine cJ ?_)) | (refine gW ?_; refine wI ?_) | (refine gB ?_; refine .of (by assumption) ?_)) <;> (conv => whnf; try dsimp only))
    refine ⟨(j + 1, B3), ⟨⟨hlt, hJ.skip _ _ _ hB3 hc hh⟩, by dsimp only; omega⟩, ?_⟩
    refine EndN.atS ?_ rfl rfl
    conv => whnf
    repeat' ((first | (refine gV ?_; first | refine vE ?_ | refine vI ?_) | exact True.intro) <;> conv => whnf)
  ·obtain rfl : j = acc.length := by omega
   conv => whnf
   try dsimp only
   repeat' ((refine gC ?_; (refine gD ?_; refine cJ ?_)) <;> (conv => whnf; try dsimp only))
   exact ⟨_, Weak.refl _, .inl ⟨rfl, hj⟩⟩
end Go.CK
namespace Go.CK
open Go.AM Go.Proofs
def sel (c : Ac) (k : ByteArray) (its : List It) : List Int := (its.filter fun i => c.has i.atom.name i.atom.args && decide (txtB (keyOf c i.atom.args) = k)).map It.id
structure TabIs (c : Ac) (its : List It) (l : List TR) : Prop where
 ids : ∀ r ∈ l, r.ids = sel c r.key its ∧ r.ids ≠ []
 all : ∀ k, sel c k its ≠ [] -> ∃ r ∈ l, r.key = k
theorem TabIs.nil (c : Ac) : TabIs c [] [] := ⟨fun _ h => (by cases h), fun k h => absurd rfl h⟩
def insIt (l : List It) (i : It) : List It := l.filter (fun x => decide (x.id < i.id)) ++ i :: l.filter (fun x => !decide (x.id < i.id))
def Asc (l : List It) : Prop := l.Pairwise fun a b => a.id < b.id
theorem filter_map_id {l : List It} {q : It -> Bool} {p : Int -> Bool} : ((l.filter fun x => p x.id).filter q).map It.id = ((l.filter q).map It.id).filter p := by
 rw [List.filter_map, List.filter_filter, List.filter_filter]; congr 1; refine List.filter_congr fun x _ => ?_; simp [Bool.and_comm]
theorem sel_ins (c : Ac) (k : ByteArray) (l : List It) (i : It) : sel c k (insIt l i) = (sel c k l).filter (fun n => decide (n < i.id)) ++ ((if c.has i.atom.name i.atom.args && decide (txtB (keyOf c i.atom.args) = k) then [i.id] else []) ++ (sel c k l).filter (fun n => !decide (n < i.id))) := by
 unfold sel insIt; rw [List.filter_append, List.map_append, List.filter_cons]; have h1 := filter_map_id (l := l) (q := fun i => c.has i.atom.name i.atom.args && decide (txtB (keyOf c i.atom.args) = k)) (p := fun n => decide (n < i.id)); have h2 := filter_map_id (l := l) (q := fun i => c.has i.atom.name i.atom.args && decide (txtB (keyOf c i.atom.args) = k)) (p := fun n => !decide (n < i.id)); rw [h1]; congr 1; split
 ·rw [List.map_cons, h2]; rfl
 ·rw [h2]; rfl
theorem sel_len (c : Ac) (k : ByteArray) (l : List It) : (sel c k l).length ≤ l.length := by
 unfold sel; rw [List.length_map]; exact List.length_filter_le _ _
theorem asc_split {l : List Int} (h : l.Pairwise (· < ·)) (n : Int) : l.filter (fun x => decide (x < n)) = l.take (l.countP fun x => decide (x < n)) ∧ l.filter (fun x => !decide (x < n)) = l.drop (l.countP fun x => decide (x < n)) := by
 induction l with
 | nil => exact ⟨rfl, rfl⟩
 | cons a l ih =>
  rw [List.pairwise_cons] at h; obtain ⟨i1, i2⟩ := ih h.2
  by_cases hx : a < n
  ·simp only [List.filter_cons, List.countP_cons, hx, decide_true, if_true, Bool.not_true, Bool.false_eq_true, if_false, List.take_succ_cons, List.drop_succ_cons]; exact ⟨by rw [i1], i2⟩
  ·have h0 : ∀ x ∈ l, ¬ x < n := fun x hm => by have := h.1 x hm; omega
   have hc : l.countP (fun x => decide (x < n)) = 0 := List.countP_eq_zero.2 fun x hm => by simpa using h0 x hm
   have hf : l.filter (fun x => decide (x < n)) = [] := List.filter_eq_nil_iff.2 fun x hm => by simpa using h0 x hm
   have hg : l.filter (fun x => !decide (x < n)) = l := List.filter_eq_self.2 fun x hm => by simpa using h0 x hm
   simp only [List.filter_cons, List.countP_cons, hx, decide_false, Bool.false_eq_true, if_false, Bool.not_false, if_true, hc, hf, hg]; exact ⟨rfl, rfl⟩
theorem asc_join {l : List Int} (h : l.Pairwise (· < ·)) (n : Int) : l.filter (fun x => decide (x < n)) ++ l.filter (fun x => !decide (x < n)) = l := by
 obtain ⟨h1, h2⟩ := asc_split h n; rw [h1, h2, List.take_append_drop]
theorem sel_asc {c : Ac} {k : ByteArray} {l : List It} (h : Asc l) : (sel c k l).Pairwise (· < ·) := by
 unfold sel; rw [List.pairwise_map]; exact List.Pairwise.filter _ h
theorem sel_insI {c : Ac} {l : List It} (h : Asc l) {i : It} (hh : c.has i.atom.name i.atom.args = true) : sel c (txtB (keyOf c i.atom.args)) (insIt l i) = insI (sel c (txtB (keyOf c i.atom.args)) l) ((sel c (txtB (keyOf c i.atom.args)) l).countP fun x => decide (x < i.id)) i.id := by
 obtain ⟨h1, h2⟩ := asc_split (sel_asc (c := c) (k := txtB (keyOf c i.atom.args)) h) i.id; rw [sel_ins, if_pos (by simp [hh]), insI, h1, h2]; rfl
theorem sel_same {c : Ac} {k : ByteArray} {l : List It} (h : Asc l) {i : It} (hh : (c.has i.atom.name i.atom.args && decide (txtB (keyOf c i.atom.args) = k)) = false) : sel c k (insIt l i) = sel c k l := by
 rw [sel_ins, if_neg (by rw [hh]; exact Bool.false_ne_true), List.nil_append, asc_join (sel_asc h)]
theorem TabIs.skip {c : Ac} {its : List It} {l : List TR} (h : TabIs c its l) (ha : Asc its) {i : It} (hh : c.has i.atom.name i.atom.args = false) : TabIs c (insIt its i) l := by
 have e : ∀ k, sel c k (insIt its i) = sel c k its := fun k => sel_same ha (by simp [hh])
 exact ⟨fun r hr => by rw [e]; exact h.ids r hr, fun k hk => h.all k (by rw [← e]; exact hk)⟩
theorem tbPut_has {l : List TR} {r : TR} {n : Nat} : ∃ q ∈ tbPut l r n, q.key = r.key := by
 induction l with
 | nil => exact ⟨_, List.mem_singleton.2 rfl, rfl⟩
 | cons a l ih =>
  rw [tbPut]; split
  ·exact ⟨_, List.mem_cons_self .., rfl⟩
  ·obtain ⟨q, h1, h2⟩ := ih; exact ⟨q, List.mem_cons_of_mem _ h1, h2⟩
theorem tbPut_old {l : List TR} {r q : TR} {n : Nat} (h : q ∈ l) (hk : q.key ≠ r.key) : q ∈ tbPut l r n := by
 induction l with
 | nil => cases h
 | cons a l ih =>
  rw [tbPut]; rcases List.mem_cons.1 h with rfl | h
  ·rw [if_neg hk]; exact List.mem_cons_self ..
  ·split
   ·exact List.mem_cons_of_mem _ h
   ·exact List.mem_cons_of_mem _ (ih h)
theorem TabIs.put {c : Ac} {its its' : List It} {l : List TR} {r : TR} {n : Nat} (h : TabIs c its l) (hn : (l.map TR.key).Nodup) (hk : ∀ k, k ≠ r.key -> sel c k its' = sel c k its) (hr : r.ids = sel c r.key its') (hne : r.ids ≠ []) : TabIs c its' (tbPut l r n) := by
 refine ⟨fun q hq => ?_, fun k hk' => ?_⟩
 ·rcases tbPut_mem hq hn with ⟨h1, h2⟩ | ⟨m, rfl⟩
  ·rw [hk _ h2]; exact h.ids q h1
  ·exact ⟨hr, hne⟩
 ·by_cases e : k = r.key
  ·obtain ⟨q, h1, h2⟩ := tbPut_has (l := l) (r := r) (n := n); exact ⟨q, h1, h2.trans e.symm⟩
  ·rw [hk k e] at hk'; obtain ⟨q, h1, h2⟩ := h.all k hk'; exact ⟨q, tbPut_old h1 (by rw [h2]; exact e), h2⟩
theorem insIt_mem {l : List It} {i x : It} : x ∈ insIt l i ↔ x = i ∨ x ∈ l := by
 simp only [insIt, List.mem_append, List.mem_filter, List.mem_cons]; constructor
 ·rintro (h | h | h)
  ·exact .inr h.1
  ·exact .inl h
  ·exact .inr h.1
 ·rintro (h | h)
  ·exact .inr (.inl h)
  ·by_cases e : x.id < i.id
   ·exact .inl ⟨h, by simpa using e⟩
   ·exact .inr (.inr ⟨h, by simpa using e⟩)
theorem insIt_asc {l : List It} (h : Asc l) {i : It} (hi : ∀ x ∈ l, x.id ≠ i.id) : Asc (insIt l i) := by
 unfold insIt Asc; rw [List.pairwise_append, List.pairwise_cons]; refine ⟨List.Pairwise.filter _ h, ⟨fun x hx => ?_, List.Pairwise.filter _ h⟩, fun a ha b hb => ?_⟩
 ·obtain ⟨h1, h2⟩ := List.mem_filter.1 hx; have := hi x h1; have h3 : ¬ x.id < i.id := by simpa using h2
  omega
 ·obtain ⟨h1, h2⟩ := List.mem_filter.1 ha; have h2 : a.id < i.id := by simpa using h2
  rcases List.mem_cons.1 hb with rfl | hb
  ·exact h2
  ·obtain ⟨h3, h4⟩ := List.mem_filter.1 hb; have h4 : ¬ b.id < i.id := by simpa using h4
   omega
theorem insIt_len (l : List It) (i : It) : (insIt l i).length = l.length + 1 := by
 have : (l.filter fun x => decide (x.id < i.id)).length + (l.filter fun x => !decide (x.id < i.id)).length = l.length := by
  induction l with
  | nil => rfl
  | cons a l ih =>
   by_cases h : a.id < i.id
   ·simp only [List.filter_cons, h, decide_true, if_true, Bool.not_true, Bool.false_eq_true, if_false, List.length_cons]; omega
   ·simp only [List.filter_cons, h, decide_false, Bool.false_eq_true, if_false, Bool.not_false, if_true, List.length_cons]; omega
 simp only [insIt, List.length_append, List.length_cons]; omega
def asgS (x : LB) (n : Nat) (K : St -> Prop) : AX -> St -> Prop
 | .normal, s => AsgP s.bs n x ((⟨s.env, s.bs.set n .dead, s.lo⟩ : St).fo false K)
 | _, _ => False
structure RndN (s : St) (n : Nat) (x : LB) (R : AV -> List Box -> Prop) : Prop where
 out : ∃ s3, Weak s s3 ∧ R (.bool true) (s3.bs.set n (.loop x))
def rndS (n : Nat) (x : LB) (R : AV -> List Box -> Prop) : AX -> St -> Prop
 | .normal, s => RndN s n x R
 | _, _ => False
theorem RangeP.run {P : Program} {g : Opd} {ps : List Nat} {a b : RC} {s : St} {Q : AX -> St -> Prop} (s0 : St) {gf : FuncId} {lb : List AV} (hw : EndN s s0) (hg : s0.ev g = .fn (.func gf) [] lb) (hbd : hasBody P gf = true)
  (h : ∀ x : LB, (∀ y bs R, boxLoop bs s0.bs.length = some x -> y.length = ps.length -> ((⟨putAll (deownEnv s0.env) ps y, bs, bs.length⟩ : St).fo false fun s1 => a.gp P false s1 (asgS x s0.bs.length fun s2 => b.gp P false s2 (rndS s0.bs.length x R))) -> SemY P s0.bs.length y bs R) ->
   ∃ QQ, AM.Sem P gf ((.yl s0.bs.length :: lb).map AV.norm) (s0.bs ++ [.loop x]) QQ ∧ ∀ r bs', QQ r bs' -> boxLoop bs' s0.bs.length = some x ∧ (⟨s0.env, bs'.set s0.bs.length .dead, s0.lo⟩ : St).fo false fun s' => Q .normal s') : RangeP P g ps a b s Q := by
 refine ⟨s0, hw.out, ?_⟩; rw [hg]; refine ⟨hbd, fun x hx => ?_⟩
 obtain ⟨QQ, h1, h2⟩ := h x fun y bs R hb hl hr => hx y bs R hb hl (by
  rw [St.fo_eq] at hr; refine RC.wp_mono (fun e s1 h1 => ?_) (RC.gp_wp hr)
  cases e with
  | normal =>
   refine ⟨h1.h, ?_⟩; have h3 := h1.k; rw [St.fo_eq] at h3; refine RC.wp_mono (fun e s3 h4 => ?_) (RC.gp_wp h3)
   cases e with
   | normal => exact h4.out
   | ret => exact h4.elim
   | exit id => exact h4.elim
  | ret => exact h1.elim
  | exit id => exact h1.elim)
 refine ⟨QQ, h1, fun r bs' hr => ?_⟩; obtain ⟨h3, h4⟩ := h2 r bs' hr; rw [St.fo_eq] at h4; exact .inl ⟨h3, h4⟩
end Go.CK
