/-
  PROFILE: the small code of functions of the program, printed by wip/gen/rc.py, each checked against the program by the kernel. By an AI agent.
-/
import Derived.Test.YtamhnlajkncccaaDoorProg
import Derived.Test.YtamhnlajkncccaaDoorAmP
set_option linter.unusedSimpArgs false
set_option linter.unusedVariables false
namespace Go.CK
open Go.AM Go.Proofs

def rc_profile_Of : RC :=
 (.seq
 (.reg false [0, 1, 4] [
 ⟨some 4, none, (.box (.c (.agg [(.sl .full []), (.int .i64 0), (.int .i64 0), (.int .i64 0)])))⟩])
 (.seq
 (.reg false [1, 4, 5] [
 ⟨some 8, none, (.mov (.t 0))⟩, ⟨some 9, none, (.minmax true (.t 8) (.c (.int .i64 0)))⟩, ⟨some 10, none, (.minmax false (.t 9) (.c (.int .i64 40)))⟩, ⟨some 11, none, (.eff (.mkB 1 (.int .i64 0)) [(.t 10), (.t 10)])⟩, ⟨some 12, none, (.mov (.t 1))⟩, ⟨some 13, none, (.len false (.t 12))⟩, ⟨some 14, none, (.build [(.sl .full []), (.int .i64 0), (.int .i64 0), (.int .i64 0)] [(0, 1, (.t 11)), (3, 1, (.t 13))])⟩, ⟨some 5, none, (.box (.c (.agg [(.sl .full []), (.int .i64 0), (.int .i64 0), (.int .i64 0)])))⟩, ⟨none, none, (.store 4 (.t 5) (.t 14))⟩])
 (.seq
 (.seq
 (.reg false [4, 5, 15, 16, 17] [
 ⟨some 15, none, (.mov (.t 1))⟩, ⟨some 16, none, (.len false (.t 15))⟩, ⟨some 17, none, (.mov (.c (.int .i64 0)))⟩])
 (.block 0
 (.loop
 (.seq
 (.reg false [4, 5, 15, 16, 17, 18] [
 ⟨some 18, none, (.bin .lss (.t 17) (.t 16))⟩])
 (.seq
 (.cond (.t 18)
 .skip
 (.exit 0))
 (.seq
 (.block 1
 (.seq
 (.reg false [4, 5, 7, 15, 16, 17] [
 ⟨some 19, none, (.idx 5 (.t 15) (.t 17))⟩, ⟨some 20, none, (.load true 5 (.t 19))⟩, ⟨some 7, none, (.box (.c (.agg [(.int .i64 0), (.int .i64 0), (.int .i64 0), (.int .i64 0), (.sl .full [])])))⟩, ⟨none, none, (.store 5 (.t 7) (.t 20))⟩])
 (.seq
 (.reg false [4, 5, 7, 15, 16, 17, 22] [
 ⟨some 21, none, (.fptr 0 (.t 7))⟩, ⟨some 22, none, (.load false 1 (.t 21))⟩])
 (.block 2
 (.seq
 (.seq
 (.reg false [4, 5, 7, 15, 16, 17, 22, 23] [
 ⟨some 24, none, (.bin .eql (.t 22) (.c (.int .i64 4)))⟩, ⟨some 23, none, (.mov (.t 24))⟩])
 (.cond (.t 23)
 .skip
 (.reg false [4, 5, 7, 15, 16, 17, 22, 23] [
 ⟨some 25, none, (.bin .eql (.t 22) (.c (.int .i64 5)))⟩, ⟨some 23, none, (.mov (.t 25))⟩])))
 (.cond (.t 23)
 (.seq
 (.reg false [4, 5, 7, 15, 16, 17, 36] [
 ⟨some 26, none, (.fptr 3 (.t 7))⟩, ⟨some 27, none, (.load false 1 (.t 26))⟩, ⟨some 28, none, (.bin .geq (.t 27) (.c (.int .i64 0)))⟩, ⟨some 29, none, (.mov (.t 28))⟩, ⟨some 30, some (29, true), (.fptr 3 (.t 7))⟩, ⟨some 31, some (29, true), (.load false 1 (.t 30))⟩, ⟨some 32, some (29, true), (.fptr 0 (.t 5))⟩, ⟨some 33, some (29, true), (.load false 1 (.t 32))⟩, ⟨some 34, some (29, true), (.len false (.t 33))⟩, ⟨some 35, some (29, true), (.bin .lss (.t 31) (.t 34))⟩, ⟨some 36, none, (.pick (.t 29) (.t 35) (.c (.bool false)))⟩])
 (.cond (.t 36)
 (.reg false [4, 5, 15, 16, 17] [
 ⟨some 37, none, (.fptr 0 (.t 5))⟩, ⟨some 38, none, (.load false 1 (.t 37))⟩, ⟨some 39, none, (.fptr 3 (.t 7))⟩, ⟨some 40, none, (.load false 1 (.t 39))⟩, ⟨some 41, none, (.idx 1 (.t 38) (.t 40))⟩, ⟨some 42, none, (.load false 1 (.t 41))⟩, ⟨some 43, none, (.bin .add (.t 42) (.c (.int .i64 1)))⟩, ⟨some 44, none, (.idx 1 (.t 38) (.t 40))⟩, ⟨none, none, (.store 1 (.t 44) (.t 43))⟩])
 .skip))
 (.seq
 (.seq
 (.reg false [4, 5, 15, 16, 17, 22, 45] [
 ⟨some 46, none, (.bin .eql (.t 22) (.c (.int .i64 1)))⟩, ⟨some 45, none, (.mov (.t 46))⟩])
 (.cond (.t 45)
 .skip
 (.reg false [4, 5, 15, 16, 17, 45] [
 ⟨some 47, none, (.bin .eql (.t 22) (.c (.int .i64 2)))⟩, ⟨some 45, none, (.mov (.t 47))⟩])))
 (.cond (.t 45)
 (.reg false [4, 5, 15, 16, 17] [
 ⟨some 48, none, (.fptr 2 (.t 5))⟩, ⟨some 49, none, (.load false 1 (.t 48))⟩, ⟨some 50, none, (.bin .add (.t 49) (.c (.int .i64 1)))⟩, ⟨some 51, none, (.fptr 2 (.t 5))⟩, ⟨none, none, (.store 1 (.t 51) (.t 50))⟩])
 .skip))))))))
 (.reg false [4, 5, 15, 16, 17] [
 ⟨some 52, none, (.bin .add (.t 17) (.c (.int .i64 1)))⟩, ⟨some 17, none, (.mov (.t 52))⟩])))))))
 (.seq
 (.reg false [4] [
 ⟨some 53, none, (.load true 4 (.t 5))⟩, ⟨none, none, (.store 4 (.t 4) (.t 53))⟩])
 .ret))))
theorem op_profile_Of {vals : List AV} {bs : List Box} {Q : AV → List Box → Prop} (hn : vals.length ≤ 54) (h : (⟨params 0 vals, bs, bs.length⟩ : St).fo true fun s => rc_profile_Of.gp Tryd.prog true s (retP [.cell 4 true 4] Q)) : AM.Sem Tryd.prog 10 vals bs Q :=
  Sem.nrm (Sem.of (fn := Tryd.f10) (keeps := [(0, [0, 1, 4]), (1, [1, 4, 5]), (2, [4, 5, 15, 16, 17]), (3, [4, 5, 15, 16, 17, 18]), (4, [4, 5, 7, 15, 16, 17]), (5, [4, 5, 7, 15, 16, 17, 22]), (6, [4, 5, 7, 15, 16, 17, 22, 23]), (7, [4, 5, 7, 15, 16, 17, 22, 23]), (10, [4, 5, 15, 16, 17, 22, 45]), (11, [4, 5, 15, 16, 17, 45]), (12, [4, 5, 15, 16, 17]), (8, [4, 5, 7, 15, 16, 17, 36]), (9, [4, 5, 15, 16, 17]), (13, [4, 5, 15, 16, 17]), (14, [4]), (1000000, [11])]) (solo := []) Tryd.func10 rfl (by kernel_rfl) (by kernel_rfl) (by kernel_rfl) hn (run_gp h))

def rc_profile_numbers : RC :=
 (.seq
 (.reg false [1] [
 ⟨some 1, none, (.box (.t 0))⟩, ⟨some 2, none, (.mov (.c (.sl .full [])))⟩])
 (.seq
 (.mult [2] [
 (0, ⟨some 3, none, (.fptr 0 (.t 1))⟩), (0, ⟨some 4, none, (.load false 1 (.t 3))⟩), (0, ⟨some 6, none, (.fptr 1 (.t 1))⟩), (0, ⟨some 7, none, (.load false 1 (.t 6))⟩), (0, ⟨some 8, none, (.fptr 2 (.t 1))⟩), (0, ⟨some 9, none, (.load false 1 (.t 8))⟩), (0, ⟨some 10, none, (.fptr 3 (.t 1))⟩), (0, ⟨some 11, none, (.load false 1 (.t 10))⟩), (0, ⟨some 12, none, (.bslice 1 [(.t 7), (.t 9), (.t 11)])⟩), (2, ⟨some 5, none, (.call (.c (.fn (.func 33) [] [])) [(.t 4)])⟩), (1, ⟨some 13, none, (.eff (.appB 1) [(.t 5), (.t 12)])⟩), (0, ⟨some 2, none, (.take 13)⟩)])
 .ret))
theorem op_profile_numbers {vals : List AV} {bs : List Box} {Q : AV → List Box → Prop} (hn : vals.length ≤ 14) (h : (⟨params 0 vals, bs, bs.length⟩ : St).fo true fun s => rc_profile_numbers.gp Tryd.prog true s (retP [.slot 2] Q)) : AM.Sem Tryd.prog 24 vals bs Q :=
  Sem.nrm (Sem.of (fn := Tryd.f24) (keeps := [(0, [1]), (1, [2]), (1000000, [13]), (2000001, [0, 1, 3, 4, 5, 6, 7, 8, 9, 2, 10, 11]), (3000001, [0, 0, 2, 0, 0, 0, 0, 0, 0, 0, 1, 0])]) (solo := []) Tryd.func24 rfl (by kernel_rfl) (by kernel_rfl) (by kernel_rfl) hn (run_gp h))

def rc_profile_Add : RC :=
 (.seq
 (.reg false [2, 3, 4] [
 ⟨some 2, none, (.box (.t 0))⟩, ⟨some 3, none, (.box (.t 1))⟩, ⟨some 4, none, (.box (.c (.agg [(.sl .full []), (.int .i64 0), (.int .i64 0), (.int .i64 0)])))⟩, ⟨some 5, none, (.mov (.c (.int .i64 0)))⟩])
 (.seq
 (.mult [2, 4, 6, 7] [
 (0, ⟨some 11, none, (.load true 4 (.t 2))⟩), (0, ⟨some 13, none, (.load true 4 (.t 3))⟩), (2, ⟨some 12, none, (.call (.c (.fn (.func 24) [] [])) [(.t 11)])⟩), (0, ⟨some 14, none, (.call (.c (.fn (.func 24) [] [])) [(.t 13)])⟩), (0, ⟨some 6, none, (.take 12)⟩), (0, ⟨some 7, none, (.take 14)⟩)])
 (.seq
 (.reg false [2, 4, 6, 7, 8] [
 ⟨some 8, none, (.mov (.c (.fn (.func 25) [] [])))⟩])
 (.seq
 (.seq
 (.reg false [2, 4, 6, 7, 29] [
 ⟨some 15, none, (.mov (.t 6))⟩, ⟨some 16, none, (.len false (.t 15))⟩, ⟨some 17, none, (.mov (.t 7))⟩, ⟨some 18, none, (.len false (.t 17))⟩, ⟨some 19, none, (.bin .neq (.t 16) (.t 18))⟩, ⟨some 20, none, (.mov (.t 19))⟩, ⟨some 21, some (20, false), (.mov (.t 6))⟩, ⟨some 22, some (20, false), (.mov (.t 8))⟩, ⟨some 23, some (20, false), (.call (.c (.fn (.func 26) [] [])) [(.t 21), (.t 22)])⟩, ⟨some 24, none, (.pick (.t 20) (.c (.bool true)) (.t 23))⟩, ⟨some 25, none, (.mov (.t 24))⟩, ⟨some 26, some (25, false), (.mov (.t 7))⟩, ⟨some 27, some (25, false), (.mov (.t 8))⟩, ⟨some 28, some (25, false), (.call (.c (.fn (.func 26) [] [])) [(.t 26), (.t 27)])⟩, ⟨some 29, none, (.pick (.t 25) (.c (.bool true)) (.t 28))⟩])
 (.cond (.t 29)
 (.seq
 (.reg false [4, 5] [
 ⟨some 30, none, (.build [(.sl .full []), (.int .i64 0), (.int .i64 0), (.int .i64 0)] [])⟩, ⟨none, none, (.store 4 (.t 4) (.t 30))⟩, ⟨some 5, none, (.mov (.c (.int .i64 2)))⟩])
 .ret)
 .skip))
 (.seq
 (.seq
 (.reg false [2, 4, 6, 7, 32, 33] [
 ⟨some 31, none, (.mov (.t 6))⟩, ⟨some 32, none, (.len false (.t 31))⟩, ⟨some 33, none, (.mov (.c (.int .i64 0)))⟩])
 (.block 0
 (.loop
 (.seq
 (.reg false [2, 4, 6, 7, 32, 33, 34] [
 ⟨some 34, none, (.bin .lss (.t 33) (.t 32))⟩])
 (.seq
 (.cond (.t 34)
 .skip
 (.exit 0))
 (.seq
 (.block 1
 (.seq
 (.reg false [2, 4, 6, 7, 9, 32, 33] [
 ⟨some 35, none, (.mov (.t 33))⟩, ⟨some 9, none, (.mov (.t 35))⟩])
 (.seq
 (.seq
 (.reg true [2, 4, 6, 7, 9, 32, 33, 45] [
 ⟨some 36, none, (.mov (.t 6))⟩, ⟨some 37, none, (.mov (.t 9))⟩, ⟨some 38, none, (.idx 1 (.t 36) (.t 37))⟩, ⟨some 39, none, (.load false 1 (.t 38))⟩, ⟨some 40, none, (.mov (.t 7))⟩, ⟨some 41, none, (.mov (.t 9))⟩, ⟨some 42, none, (.idx 1 (.t 40) (.t 41))⟩, ⟨some 43, none, (.load false 1 (.t 42))⟩, ⟨some 44, none, (.bin .sub (.c (.int .i64 9223372036854775807)) (.t 43))⟩, ⟨some 45, none, (.bin .gtr (.t 39) (.t 44))⟩])
 (.cond (.t 45)
 (.seq
 (.reg false [4, 5] [
 ⟨some 46, none, (.build [(.sl .full []), (.int .i64 0), (.int .i64 0), (.int .i64 0)] [])⟩, ⟨none, none, (.store 4 (.t 4) (.t 46))⟩, ⟨some 5, none, (.mov (.c (.int .i64 5)))⟩])
 .ret)
 .skip))
 (.mult [2, 4, 6, 7, 32, 33] [
 (0, ⟨some 47, none, (.mov (.t 6))⟩), (0, ⟨some 48, none, (.mov (.t 9))⟩), (0, ⟨some 49, none, (.idx 1 (.t 47) (.t 48))⟩), (0, ⟨some 50, none, (.load false 1 (.t 49))⟩), (0, ⟨some 51, none, (.mov (.t 7))⟩), (0, ⟨some 52, none, (.mov (.t 9))⟩), (0, ⟨some 53, none, (.idx 1 (.t 51) (.t 52))⟩), (0, ⟨some 54, none, (.load false 1 (.t 53))⟩), (0, ⟨some 55, none, (.bin .add (.t 50) (.t 54))⟩), (0, ⟨some 56, none, (.idx 1 (.t 47) (.t 48))⟩), (1, ⟨none, none, (.store 1 (.t 56) (.t 55))⟩)]))))
 (.reg false [2, 4, 6, 7, 32, 33] [
 ⟨some 57, none, (.bin .add (.t 33) (.c (.int .i64 1)))⟩, ⟨some 33, none, (.mov (.t 57))⟩])))))))
 (.seq
 (.reg false [4, 6, 10] [
 ⟨some 58, none, (.fptr 0 (.t 2))⟩, ⟨some 59, none, (.load false 1 (.t 58))⟩, ⟨some 60, none, (.len false (.t 59))⟩, ⟨some 10, none, (.mov (.t 60))⟩])
 (.seq
 (.reg true [4, 5] [
 ⟨some 61, none, (.mov (.t 6))⟩, ⟨some 62, none, (.mov (.t 10))⟩, ⟨some 63, none, (.mov (.t 10))⟩, ⟨some 64, none, (.slc 1 (.t 61) none (some (.t 62)) (some (.t 63)))⟩, ⟨some 65, none, (.mov (.t 6))⟩, ⟨some 66, none, (.mov (.t 10))⟩, ⟨some 67, none, (.idx 1 (.t 65) (.t 66))⟩, ⟨some 68, none, (.load false 1 (.t 67))⟩, ⟨some 69, none, (.mov (.t 6))⟩, ⟨some 70, none, (.mov (.t 10))⟩, ⟨some 71, none, (.bin .add (.t 70) (.c (.int .i64 1)))⟩, ⟨some 72, none, (.idx 1 (.t 69) (.t 71))⟩, ⟨some 73, none, (.load false 1 (.t 72))⟩, ⟨some 74, none, (.mov (.t 6))⟩, ⟨some 75, none, (.mov (.t 10))⟩, ⟨some 76, none, (.bin .add (.t 75) (.c (.int .i64 2)))⟩, ⟨some 77, none, (.idx 1 (.t 74) (.t 76))⟩, ⟨some 78, none, (.load false 1 (.t 77))⟩, ⟨some 79, none, (.build [(.sl .full []), (.int .i64 0), (.int .i64 0), (.int .i64 0)] [(0, 1, (.t 64)), (1, 1, (.t 68)), (2, 1, (.t 73)), (3, 1, (.t 78))])⟩, ⟨none, none, (.store 4 (.t 4) (.t 79))⟩, ⟨some 5, none, (.mov (.c (.int .i64 0)))⟩])
 .ret)))))))
theorem op_profile_Add {vals : List AV} {bs : List Box} {Q : AV → List Box → Prop} (hn : vals.length ≤ 80) (h : (⟨params 0 vals, bs, bs.length⟩ : St).fo true fun s => rc_profile_Add.gp Tryd.prog true s (retP [.cell 4 true 4, .slot 5] Q)) : AM.Sem Tryd.prog 13 vals bs Q :=
  Sem.nrm (Sem.of (fn := Tryd.f13) (keeps := [(0, [2, 3, 4]), (1, [2, 4, 6, 7]), (2, [2, 4, 6, 7, 8]), (3, [2, 4, 6, 7, 29]), (4, [4, 5]), (5, [2, 4, 6, 7, 32, 33]), (6, [2, 4, 6, 7, 32, 33, 34]), (7, [2, 4, 6, 7, 9, 32, 33]), (8, [2, 4, 6, 7, 9, 32, 33, 45]), (9, [4, 5]), (10, [2, 4, 6, 7, 32, 33]), (11, [2, 4, 6, 7, 32, 33]), (12, [4, 6, 10]), (13, [4, 5]), (2000001, [0, 2, 1, 3, 4, 5]), (3000001, [0, 2, 0, 0, 0, 0]), (2000010, [0, 1, 2, 3, 4, 5, 6, 7, 8, 9, 10]), (3000010, [0, 0, 0, 0, 0, 0, 0, 0, 0, 0, 1])]) (solo := []) Tryd.func13 rfl (by kernel_rfl) (by kernel_rfl) (by kernel_rfl) hn (run_gp h))

def rc_profile_Same : RC :=
 (.seq
 (.reg false [2, 3] [
 ⟨some 2, none, (.box (.t 0))⟩, ⟨some 3, none, (.box (.t 1))⟩, ⟨some 4, none, (.mov (.c (.bool false)))⟩])
 (.seq
 (.reg true [4] [
 ⟨some 5, none, (.load true 4 (.t 2))⟩, ⟨some 6, none, (.call (.c (.fn (.func 24) [] [])) [(.t 5)])⟩, ⟨some 7, none, (.load true 4 (.t 3))⟩, ⟨some 8, none, (.call (.c (.fn (.func 24) [] [])) [(.t 7)])⟩, ⟨some 9, none, (.call (.c (.fn (.func 27) [] [])) [(.t 6), (.t 8)])⟩, ⟨some 4, none, (.take 9)⟩])
 .ret))
theorem op_profile_Same {vals : List AV} {bs : List Box} {Q : AV → List Box → Prop} (hn : vals.length ≤ 10) (h : (⟨params 0 vals, bs, bs.length⟩ : St).fo true fun s => rc_profile_Same.gp Tryd.prog true s (retP [.slot 4] Q)) : AM.Sem Tryd.prog 14 vals bs Q :=
  Sem.nrm (Sem.of (fn := Tryd.f14) (keeps := [(0, [2, 3]), (1, [4])]) (solo := []) Tryd.func14 rfl (by kernel_rfl) (by kernel_rfl) (by kernel_rfl) hn (run_gp h))

def rc_profile_Total : RC :=
 (.seq
 (.reg false [1] [
 ⟨some 1, none, (.box (.t 0))⟩, ⟨some 2, none, (.mov (.c (.int .i64 0)))⟩])
 (.seq
 (.reg false [1, 3] [
 ⟨some 3, none, (.mov (.c (.int .i64 0)))⟩])
 (.seq
 (.seq
 (.reg false [3, 7, 8, 9] [
 ⟨some 6, none, (.fptr 0 (.t 1))⟩, ⟨some 7, none, (.load false 1 (.t 6))⟩, ⟨some 8, none, (.len false (.t 7))⟩, ⟨some 9, none, (.mov (.c (.int .i64 0)))⟩])
 (.block 0
 (.loop
 (.seq
 (.reg false [3, 7, 8, 9, 10] [
 ⟨some 10, none, (.bin .lss (.t 9) (.t 8))⟩])
 (.seq
 (.cond (.t 10)
 .skip
 (.exit 0))
 (.seq
 (.block 1
 (.seq
 (.reg false [3, 5, 7, 8, 9] [
 ⟨some 11, none, (.idx 1 (.t 7) (.t 9))⟩, ⟨some 12, none, (.load false 1 (.t 11))⟩, ⟨some 5, none, (.mov (.t 12))⟩])
 (.seq
 (.seq
 (.reg false [3, 5, 7, 8, 9, 16] [
 ⟨some 13, none, (.mov (.t 5))⟩, ⟨some 14, none, (.mov (.t 3))⟩, ⟨some 15, none, (.bin .sub (.c (.int .i64 9223372036854775807)) (.t 14))⟩, ⟨some 16, none, (.bin .gtr (.t 13) (.t 15))⟩])
 (.cond (.t 16)
 (.seq
 (.reg false [2] [
 ⟨some 2, none, (.mov (.c (.int .i64 9223372036854775807)))⟩])
 .ret)
 .skip))
 (.reg false [3, 7, 8, 9] [
 ⟨some 17, none, (.mov (.t 3))⟩, ⟨some 18, none, (.mov (.t 5))⟩, ⟨some 19, none, (.minmax true (.t 18) (.c (.int .i64 0)))⟩, ⟨some 20, none, (.bin .add (.t 17) (.t 19))⟩, ⟨some 3, none, (.mov (.t 20))⟩]))))
 (.reg false [3, 7, 8, 9] [
 ⟨some 21, none, (.bin .add (.t 9) (.c (.int .i64 1)))⟩, ⟨some 9, none, (.mov (.t 21))⟩])))))))
 (.seq
 (.reg false [2] [
 ⟨some 22, none, (.mov (.t 3))⟩, ⟨some 2, none, (.mov (.t 22))⟩])
 .ret))))
theorem op_profile_Total {vals : List AV} {bs : List Box} {Q : AV → List Box → Prop} (hn : vals.length ≤ 23) (h : (⟨params 0 vals, bs, bs.length⟩ : St).fo true fun s => rc_profile_Total.gp Tryd.prog true s (retP [.slot 2] Q)) : AM.Sem Tryd.prog 15 vals bs Q :=
  Sem.nrm (Sem.of (fn := Tryd.f15) (keeps := [(0, [1]), (1, [1, 3]), (2, [3, 7, 8, 9]), (3, [3, 7, 8, 9, 10]), (4, [3, 5, 7, 8, 9]), (5, [3, 5, 7, 8, 9, 16]), (6, [2]), (7, [3, 7, 8, 9]), (8, [3, 7, 8, 9]), (9, [2])]) (solo := []) Tryd.func15 rfl (by kernel_rfl) (by kernel_rfl) (by kernel_rfl) hn (run_gp h))

def rc_profile_Add_1 : RC :=
 (.seq
 (.reg false [0] [
 ⟨some 2, none, (.mov (.c (.bool false)))⟩])
 (.seq
 (.reg false [2] [
 ⟨some 3, none, (.mov (.t 0))⟩, ⟨some 4, none, (.bin .lss (.t 3) (.c (.int .i64 0)))⟩, ⟨some 2, none, (.mov (.t 4))⟩])
 .ret))
theorem op_profile_Add_1 {vals : List AV} {bs : List Box} {Q : AV → List Box → Prop} (hn : vals.length ≤ 5) (h : (⟨params 0 vals, bs, bs.length⟩ : St).fo true fun s => rc_profile_Add_1.gp Tryd.prog true s (retP [.slot 2] Q)) : AM.Sem Tryd.prog 25 vals bs Q :=
  Sem.nrm (Sem.of (fn := Tryd.f25) (keeps := [(0, [0]), (1, [2])]) (solo := []) Tryd.func25 rfl (by kernel_rfl) (by kernel_rfl) (by kernel_rfl) hn (run_gp h))

def rc_slices_ContainsFunc_int_int : RC :=
 (.seq
 (.reg false [0, 1] [
 ⟨some 4, none, (.mov (.c (.bool false)))⟩])
 (.seq
 (.reg false [4] [
 ⟨some 5, none, (.mov (.t 0))⟩, ⟨some 6, none, (.mov (.t 1))⟩, ⟨some 7, none, (.call (.c (.fn (.func 34) [] [])) [(.t 5), (.t 6)])⟩, ⟨some 8, none, (.bin .geq (.t 7) (.c (.int .i64 0)))⟩, ⟨some 4, none, (.mov (.t 8))⟩])
 .ret))
theorem op_slices_ContainsFunc_int_int {vals : List AV} {bs : List Box} {Q : AV → List Box → Prop} (hn : vals.length ≤ 9) (h : (⟨params 0 vals, bs, bs.length⟩ : St).fo true fun s => rc_slices_ContainsFunc_int_int.gp Tryd.prog true s (retP [.slot 4] Q)) : AM.Sem Tryd.prog 26 vals bs Q :=
  Sem.nrm (Sem.of (fn := Tryd.f26) (keeps := [(0, [0, 1]), (1, [4])]) (solo := []) Tryd.func26 rfl (by kernel_rfl) (by kernel_rfl) (by kernel_rfl) hn (run_gp h))

def rc_slices_IndexFunc_int_int : RC :=
 (.seq
 (.reg false [0, 1] [
 ⟨some 4, none, (.mov (.c (.int .i64 0)))⟩])
 (.seq
 (.seq
 (.reg false [0, 1, 7, 8] [
 ⟨some 6, none, (.mov (.t 0))⟩, ⟨some 7, none, (.len false (.t 6))⟩, ⟨some 8, none, (.mov (.c (.int .i64 0)))⟩])
 (.block 0
 (.loop
 (.seq
 (.reg false [0, 1, 7, 8, 9] [
 ⟨some 9, none, (.bin .lss (.t 8) (.t 7))⟩])
 (.seq
 (.cond (.t 9)
 .skip
 (.exit 0))
 (.seq
 (.block 1
 (.seq
 (.reg false [0, 1, 5, 7, 8] [
 ⟨some 10, none, (.mov (.t 8))⟩, ⟨some 5, none, (.mov (.t 10))⟩])
 (.seq
 (.reg false [0, 1, 5, 7, 8, 16] [
 ⟨some 11, none, (.mov (.t 1))⟩, ⟨some 12, none, (.mov (.t 0))⟩, ⟨some 13, none, (.mov (.t 5))⟩, ⟨some 14, none, (.idx 1 (.t 12) (.t 13))⟩, ⟨some 15, none, (.load false 1 (.t 14))⟩, ⟨some 16, none, (.callv (.t 11) [(.t 15)])⟩])
 (.cond (.t 16)
 (.seq
 (.reg false [4] [
 ⟨some 17, none, (.mov (.t 5))⟩, ⟨some 4, none, (.mov (.t 17))⟩])
 .ret)
 .skip))))
 (.reg false [0, 1, 7, 8] [
 ⟨some 18, none, (.bin .add (.t 8) (.c (.int .i64 1)))⟩, ⟨some 8, none, (.mov (.t 18))⟩])))))))
 (.seq
 (.reg false [4] [
 ⟨some 4, none, (.mov (.c (.int .i64 (-1))))⟩])
 .ret)))
theorem op_slices_IndexFunc_int_int {vals : List AV} {bs : List Box} {Q : AV → List Box → Prop} (hn : vals.length ≤ 19) (h : (⟨params 0 vals, bs, bs.length⟩ : St).fo true fun s => rc_slices_IndexFunc_int_int.gp Tryd.prog true s (retP [.slot 4] Q)) : AM.Sem Tryd.prog 34 vals bs Q :=
  Sem.nrm (Sem.of (fn := Tryd.f34) (keeps := [(0, [0, 1]), (1, [0, 1, 7, 8]), (2, [0, 1, 7, 8, 9]), (3, [0, 1, 5, 7, 8]), (4, [0, 1, 5, 7, 8, 16]), (5, [4]), (6, [0, 1, 7, 8]), (7, [4])]) (solo := []) Tryd.func34 rfl (by kernel_rfl) (by kernel_rfl) (by kernel_rfl) hn (run_gp h))

def rc_slices_Equal_int_int : RC :=
 (.seq
 (.reg false [0, 1] [
 ⟨some 4, none, (.mov (.c (.bool false)))⟩])
 (.seq
 (.seq
 (.reg false [0, 1, 10] [
 ⟨some 6, none, (.mov (.t 0))⟩, ⟨some 7, none, (.len false (.t 6))⟩, ⟨some 8, none, (.mov (.t 1))⟩, ⟨some 9, none, (.len false (.t 8))⟩, ⟨some 10, none, (.bin .neq (.t 7) (.t 9))⟩])
 (.cond (.t 10)
 (.seq
 (.reg false [4] [
 ⟨some 4, none, (.mov (.c (.bool false)))⟩])
 .ret)
 .skip))
 (.seq
 (.seq
 (.reg false [0, 1, 12, 13] [
 ⟨some 11, none, (.mov (.t 0))⟩, ⟨some 12, none, (.len false (.t 11))⟩, ⟨some 13, none, (.mov (.c (.int .i64 0)))⟩])
 (.block 0
 (.loop
 (.seq
 (.reg false [0, 1, 12, 13, 14] [
 ⟨some 14, none, (.bin .lss (.t 13) (.t 12))⟩])
 (.seq
 (.cond (.t 14)
 .skip
 (.exit 0))
 (.seq
 (.block 1
 (.seq
 (.reg false [0, 1, 5, 12, 13] [
 ⟨some 15, none, (.mov (.t 13))⟩, ⟨some 5, none, (.mov (.t 15))⟩])
 (.seq
 (.reg true [0, 1, 12, 13, 24] [
 ⟨some 16, none, (.mov (.t 0))⟩, ⟨some 17, none, (.mov (.t 5))⟩, ⟨some 18, none, (.idx 1 (.t 16) (.t 17))⟩, ⟨some 19, none, (.load false 1 (.t 18))⟩, ⟨some 20, none, (.mov (.t 1))⟩, ⟨some 21, none, (.mov (.t 5))⟩, ⟨some 22, none, (.idx 1 (.t 20) (.t 21))⟩, ⟨some 23, none, (.load false 1 (.t 22))⟩, ⟨some 24, none, (.bin .neq (.t 19) (.t 23))⟩])
 (.cond (.t 24)
 (.seq
 (.reg false [4] [
 ⟨some 4, none, (.mov (.c (.bool false)))⟩])
 .ret)
 .skip))))
 (.reg false [0, 1, 12, 13] [
 ⟨some 25, none, (.bin .add (.t 13) (.c (.int .i64 1)))⟩, ⟨some 13, none, (.mov (.t 25))⟩])))))))
 (.seq
 (.reg false [4] [
 ⟨some 4, none, (.mov (.c (.bool true)))⟩])
 .ret))))
theorem op_slices_Equal_int_int {vals : List AV} {bs : List Box} {Q : AV → List Box → Prop} (hn : vals.length ≤ 26) (h : (⟨params 0 vals, bs, bs.length⟩ : St).fo true fun s => rc_slices_Equal_int_int.gp Tryd.prog true s (retP [.slot 4] Q)) : AM.Sem Tryd.prog 27 vals bs Q :=
  Sem.nrm (Sem.of (fn := Tryd.f27) (keeps := [(0, [0, 1]), (1, [0, 1, 10]), (2, [4]), (3, [0, 1, 12, 13]), (4, [0, 1, 12, 13, 14]), (5, [0, 1, 5, 12, 13]), (6, [0, 1, 12, 13, 24]), (7, [4]), (8, [0, 1, 12, 13]), (9, [4])]) (solo := []) Tryd.func27 rfl (by kernel_rfl) (by kernel_rfl) (by kernel_rfl) hn (run_gp h))

def rc_slices_Clone_int_int : RC :=
 (.seq
 (.reg false [0] [
 ⟨some 2, none, (.mov (.c (.sl .full [])))⟩])
 (.seq
 (.seq
 (.reg false [0, 4] [
 ⟨some 3, none, (.mov (.t 0))⟩, ⟨some 4, none, (.eff (.nilS false) [(.t 3)])⟩])
 (.cond (.t 4)
 (.seq
 (.reg false [2] [
 ⟨some 2, none, (.mov (.c (.sl .full [])))⟩])
 .ret)
 .skip))
 (.seq
 (.reg false [2] [
 ⟨some 5, none, (.bslice 1 [])⟩, ⟨some 6, none, (.mov (.t 0))⟩, ⟨some 7, none, (.eff (.appB 1) [(.t 5), (.t 6)])⟩, ⟨some 2, none, (.mov (.t 7))⟩])
 .ret)))
theorem op_slices_Clone_int_int {vals : List AV} {bs : List Box} {Q : AV → List Box → Prop} (hn : vals.length ≤ 8) (h : (⟨params 0 vals, bs, bs.length⟩ : St).fo true fun s => rc_slices_Clone_int_int.gp Tryd.prog true s (retP [.slot 2] Q)) : AM.Sem Tryd.prog 33 vals bs Q :=
  Sem.nrm (Sem.of (fn := Tryd.f33) (keeps := [(0, [0]), (1, [0, 4]), (2, [2]), (3, [2]), (1000000, [7])]) (solo := []) Tryd.func33 rfl (by kernel_rfl) (by kernel_rfl) (by kernel_rfl) hn (run_gp h))

def rc_constraintref37_Of : RC :=
 (.seq
 (.reg false [0, 1, 4] [
 ⟨some 4, none, (.box (.c (.agg [(.sl .full []), (.int .i64 0), (.int .i64 0), (.int .i64 0)])))⟩])
 (.seq
 (.reg false [0, 1, 4, 5] [
 ⟨some 5, none, (.box (.c (.agg [(.sl .full []), (.int .i64 0), (.int .i64 0), (.int .i64 0)])))⟩])
 (.seq
 (.reg false [0, 1, 4, 5] [
 ⟨some 10, none, (.mov (.t 0))⟩, ⟨some 11, none, (.minmax true (.t 10) (.c (.int .i64 0)))⟩, ⟨some 12, none, (.minmax false (.t 11) (.c (.int .i64 40)))⟩, ⟨some 0, none, (.mov (.t 12))⟩])
 (.seq
 (.seq
 (.reg false [0, 1, 4, 5, 6] [
 ⟨some 6, none, (.mov (.c (.int .i64 0)))⟩])
 (.block 0
 (.loop
 (.seq
 (.seq
 (.reg false [0, 1, 4, 5, 6, 15] [
 ⟨some 13, none, (.mov (.t 6))⟩, ⟨some 14, none, (.mov (.t 0))⟩, ⟨some 15, none, (.bin .lss (.t 13) (.t 14))⟩])
 (.cond (.t 15)
 .skip
 (.exit 0)))
 (.seq
 (.block 1
 (.seq
 (.reg false [0, 1, 4, 5, 6, 7] [
 ⟨some 7, none, (.mov (.c (.int .i64 0)))⟩])
 (.seq
 (.seq
 (.reg false [0, 1, 4, 5, 6, 7, 8] [
 ⟨some 8, none, (.mov (.c (.int .i64 0)))⟩])
 (.block 2
 (.loop
 (.seq
 (.seq
 (.reg false [0, 1, 4, 5, 6, 7, 8, 21] [
 ⟨some 18, none, (.mov (.t 8))⟩, ⟨some 19, none, (.mov (.t 1))⟩, ⟨some 20, none, (.len false (.t 19))⟩, ⟨some 21, none, (.bin .lss (.t 18) (.t 20))⟩])
 (.cond (.t 21)
 .skip
 (.exit 2)))
 (.seq
 (.block 3
 (.seq
 (.reg false [0, 1, 4, 5, 6, 7, 8, 46] [
 ⟨some 24, none, (.mov (.t 1))⟩, ⟨some 25, none, (.mov (.t 8))⟩, ⟨some 26, none, (.idx 5 (.t 24) (.t 25))⟩, ⟨some 27, none, (.fptr 0 (.t 26))⟩, ⟨some 28, none, (.load false 1 (.t 27))⟩, ⟨some 29, none, (.bin .eql (.t 28) (.c (.int .i64 4)))⟩, ⟨some 30, none, (.mov (.t 29))⟩, ⟨some 31, some (30, false), (.mov (.t 1))⟩, ⟨some 32, some (30, false), (.mov (.t 8))⟩, ⟨some 33, some (30, false), (.idx 5 (.t 31) (.t 32))⟩, ⟨some 34, some (30, false), (.fptr 0 (.t 33))⟩, ⟨some 35, some (30, false), (.load false 1 (.t 34))⟩, ⟨some 36, some (30, false), (.bin .eql (.t 35) (.c (.int .i64 5)))⟩, ⟨some 37, none, (.pick (.t 30) (.c (.bool true)) (.t 36))⟩, ⟨some 38, none, (.mov (.t 37))⟩, ⟨some 39, some (38, true), (.mov (.t 1))⟩, ⟨some 40, some (38, true), (.mov (.t 8))⟩, ⟨some 41, some (38, true), (.idx 5 (.t 39) (.t 40))⟩, ⟨some 42, some (38, true), (.fptr 3 (.t 41))⟩, ⟨some 43, some (38, true), (.load false 1 (.t 42))⟩, ⟨some 44, some (38, true), (.mov (.t 6))⟩, ⟨some 45, some (38, true), (.bin .eql (.t 43) (.t 44))⟩, ⟨some 46, none, (.pick (.t 38) (.t 45) (.c (.bool false)))⟩])
 (.cond (.t 46)
 (.reg false [0, 1, 4, 5, 6, 7, 8] [
 ⟨some 47, none, (.mov (.t 7))⟩, ⟨some 48, none, (.bin .add (.t 47) (.c (.int .i64 1)))⟩, ⟨some 7, none, (.mov (.t 48))⟩])
 .skip)))
 (.reg false [0, 1, 4, 5, 6, 7, 8] [
 ⟨some 22, none, (.mov (.t 8))⟩, ⟨some 23, none, (.bin .add (.t 22) (.c (.int .i64 1)))⟩, ⟨some 8, none, (.mov (.t 23))⟩]))))))
 (.reg false [0, 1, 4, 5, 6] [
 ⟨some 49, none, (.fptr 0 (.t 5))⟩, ⟨some 50, none, (.load false 1 (.t 49))⟩, ⟨some 51, none, (.mov (.t 7))⟩, ⟨some 52, none, (.bslice 1 [(.t 51)])⟩, ⟨some 53, none, (.append 1 (.t 50) (.t 52))⟩, ⟨some 54, none, (.fptr 0 (.t 5))⟩, ⟨none, none, (.store 1 (.t 54) (.t 53))⟩]))))
 (.reg false [0, 1, 4, 5, 6] [
 ⟨some 16, none, (.mov (.t 6))⟩, ⟨some 17, none, (.bin .add (.t 16) (.c (.int .i64 1)))⟩, ⟨some 6, none, (.mov (.t 17))⟩]))))))
 (.seq
 (.seq
 (.reg false [1, 4, 5, 9] [
 ⟨some 9, none, (.mov (.c (.int .i64 0)))⟩])
 (.block 4
 (.loop
 (.seq
 (.seq
 (.reg false [1, 4, 5, 9, 58] [
 ⟨some 55, none, (.mov (.t 9))⟩, ⟨some 56, none, (.mov (.t 1))⟩, ⟨some 57, none, (.len false (.t 56))⟩, ⟨some 58, none, (.bin .lss (.t 55) (.t 57))⟩])
 (.cond (.t 58)
 .skip
 (.exit 4)))
 (.seq
 (.block 5
 (.seq
 (.reg false [1, 4, 5, 9, 74] [
 ⟨some 61, none, (.mov (.t 1))⟩, ⟨some 62, none, (.mov (.t 9))⟩, ⟨some 63, none, (.idx 5 (.t 61) (.t 62))⟩, ⟨some 64, none, (.fptr 0 (.t 63))⟩, ⟨some 65, none, (.load false 1 (.t 64))⟩, ⟨some 66, none, (.bin .eql (.t 65) (.c (.int .i64 1)))⟩, ⟨some 67, none, (.mov (.t 66))⟩, ⟨some 68, some (67, false), (.mov (.t 1))⟩, ⟨some 69, some (67, false), (.mov (.t 9))⟩, ⟨some 70, some (67, false), (.idx 5 (.t 68) (.t 69))⟩, ⟨some 71, some (67, false), (.fptr 0 (.t 70))⟩, ⟨some 72, some (67, false), (.load false 1 (.t 71))⟩, ⟨some 73, some (67, false), (.bin .eql (.t 72) (.c (.int .i64 2)))⟩, ⟨some 74, none, (.pick (.t 67) (.c (.bool true)) (.t 73))⟩])
 (.cond (.t 74)
 (.reg false [1, 4, 5, 9] [
 ⟨some 75, none, (.fptr 2 (.t 5))⟩, ⟨some 76, none, (.load false 1 (.t 75))⟩, ⟨some 77, none, (.bin .add (.t 76) (.c (.int .i64 1)))⟩, ⟨some 78, none, (.fptr 2 (.t 5))⟩, ⟨none, none, (.store 1 (.t 78) (.t 77))⟩])
 .skip)))
 (.reg false [1, 4, 5, 9] [
 ⟨some 59, none, (.mov (.t 9))⟩, ⟨some 60, none, (.bin .add (.t 59) (.c (.int .i64 1)))⟩, ⟨some 9, none, (.mov (.t 60))⟩]))))))
 (.seq
 (.reg false [4, 5] [
 ⟨some 79, none, (.mov (.t 1))⟩, ⟨some 80, none, (.len false (.t 79))⟩, ⟨some 81, none, (.fptr 3 (.t 5))⟩, ⟨none, none, (.store 1 (.t 81) (.t 80))⟩])
 (.seq
 (.reg false [4] [
 ⟨some 82, none, (.load true 4 (.t 5))⟩, ⟨none, none, (.store 4 (.t 4) (.t 82))⟩])
 .ret)))))))
theorem op_constraintref37_Of {vals : List AV} {bs : List Box} {Q : AV → List Box → Prop} (hn : vals.length ≤ 83) (h : (⟨params 0 vals, bs, bs.length⟩ : St).fo true fun s => rc_constraintref37_Of.gp Tryd.prog true s (retP [.cell 4 true 4] Q)) : AM.Sem Tryd.prog 11 vals bs Q :=
  Sem.nrm (Sem.of (fn := Tryd.f11) (keeps := [(0, [0, 1, 4]), (1, [0, 1, 4, 5]), (2, [0, 1, 4, 5]), (3, [0, 1, 4, 5, 6]), (4, [0, 1, 4, 5, 6, 15]), (6, [0, 1, 4, 5, 6, 7]), (7, [0, 1, 4, 5, 6, 7, 8]), (8, [0, 1, 4, 5, 6, 7, 8, 21]), (10, [0, 1, 4, 5, 6, 7, 8, 46]), (11, [0, 1, 4, 5, 6, 7, 8]), (9, [0, 1, 4, 5, 6, 7, 8]), (12, [0, 1, 4, 5, 6]), (5, [0, 1, 4, 5, 6]), (13, [1, 4, 5, 9]), (14, [1, 4, 5, 9, 58]), (16, [1, 4, 5, 9, 74]), (17, [1, 4, 5, 9]), (15, [1, 4, 5, 9]), (18, [4, 5]), (19, [4])]) (solo := []) Tryd.func11 rfl (by kernel_rfl) (by kernel_rfl) (by kernel_rfl) hn (run_gp h))

def rc_constraintref37_numbers : RC :=
 (.seq
 (.reg false [1] [
 ⟨some 1, none, (.box (.t 0))⟩, ⟨some 2, none, (.mov (.c (.sl .full [])))⟩])
 (.seq
 (.reg true [2] [
 ⟨some 3, none, (.bslice 1 [])⟩, ⟨some 4, none, (.fptr 0 (.t 1))⟩, ⟨some 5, none, (.load false 1 (.t 4))⟩, ⟨some 6, none, (.append 1 (.t 3) (.t 5))⟩, ⟨some 7, none, (.fptr 1 (.t 1))⟩, ⟨some 8, none, (.load false 1 (.t 7))⟩, ⟨some 9, none, (.fptr 2 (.t 1))⟩, ⟨some 10, none, (.load false 1 (.t 9))⟩, ⟨some 11, none, (.fptr 3 (.t 1))⟩, ⟨some 12, none, (.load false 1 (.t 11))⟩, ⟨some 13, none, (.bslice 1 [(.t 8), (.t 10), (.t 12)])⟩, ⟨some 14, none, (.append 1 (.t 6) (.t 13))⟩, ⟨some 2, none, (.take 14)⟩])
 .ret))
theorem op_constraintref37_numbers {vals : List AV} {bs : List Box} {Q : AV → List Box → Prop} (hn : vals.length ≤ 15) (h : (⟨params 0 vals, bs, bs.length⟩ : St).fo true fun s => rc_constraintref37_numbers.gp Tryd.prog true s (retP [.slot 2] Q)) : AM.Sem Tryd.prog 23 vals bs Q :=
  Sem.nrm (Sem.of (fn := Tryd.f23) (keeps := [(0, [1]), (1, [2])]) (solo := []) Tryd.func23 rfl (by kernel_rfl) (by kernel_rfl) (by kernel_rfl) hn (run_gp h))

def rc_constraintref37_Right : RC :=
 (.seq
 (.reg false [1] [
 ⟨some 1, none, (.box (.t 0))⟩, ⟨some 2, none, (.mov (.c (.bool false)))⟩])
 (.seq
 (.reg false [3] [
 ⟨some 5, none, (.load true 4 (.t 1))⟩, ⟨some 6, none, (.call (.c (.fn (.func 23) [] [])) [(.t 5)])⟩, ⟨some 3, none, (.mov (.t 6))⟩])
 (.seq
 (.seq
 (.reg false [3, 4] [
 ⟨some 4, none, (.mov (.c (.int .i64 0)))⟩])
 (.block 0
 (.loop
 (.seq
 (.seq
 (.reg false [3, 4, 10] [
 ⟨some 7, none, (.mov (.t 4))⟩, ⟨some 8, none, (.mov (.t 3))⟩, ⟨some 9, none, (.len false (.t 8))⟩, ⟨some 10, none, (.bin .lss (.t 7) (.t 9))⟩])
 (.cond (.t 10)
 .skip
 (.exit 0)))
 (.seq
 (.block 1
 (.seq
 (.reg false [3, 4, 17] [
 ⟨some 13, none, (.mov (.t 3))⟩, ⟨some 14, none, (.mov (.t 4))⟩, ⟨some 15, none, (.idx 1 (.t 13) (.t 14))⟩, ⟨some 16, none, (.load false 1 (.t 15))⟩, ⟨some 17, none, (.bin .lss (.t 16) (.c (.int .i64 0)))⟩])
 (.cond (.t 17)
 (.seq
 (.reg false [2] [
 ⟨some 2, none, (.mov (.c (.bool false)))⟩])
 .ret)
 .skip)))
 (.reg false [3, 4] [
 ⟨some 11, none, (.mov (.t 4))⟩, ⟨some 12, none, (.bin .add (.t 11) (.c (.int .i64 1)))⟩, ⟨some 4, none, (.mov (.t 12))⟩]))))))
 (.seq
 (.reg false [2] [
 ⟨some 2, none, (.mov (.c (.bool true)))⟩])
 .ret))))
theorem op_constraintref37_Right {vals : List AV} {bs : List Box} {Q : AV → List Box → Prop} (hn : vals.length ≤ 18) (h : (⟨params 0 vals, bs, bs.length⟩ : St).fo true fun s => rc_constraintref37_Right.gp Tryd.prog true s (retP [.slot 2] Q)) : AM.Sem Tryd.prog 18 vals bs Q :=
  Sem.nrm (Sem.of (fn := Tryd.f18) (keeps := [(0, [1]), (1, [3]), (2, [3, 4]), (3, [3, 4, 10]), (5, [3, 4, 17]), (6, [2]), (4, [3, 4]), (7, [2])]) (solo := []) Tryd.func18 rfl (by kernel_rfl) (by kernel_rfl) (by kernel_rfl) hn (run_gp h))

def rc_constraintref37_Add : RC :=
 (.seq
 (.reg false [2, 3, 4] [
 ⟨some 2, none, (.box (.t 0))⟩, ⟨some 3, none, (.box (.t 1))⟩, ⟨some 4, none, (.box (.c (.agg [(.sl .full []), (.int .i64 0), (.int .i64 0), (.int .i64 0)])))⟩, ⟨some 5, none, (.mov (.c (.int .i64 0)))⟩])
 (.seq
 (.seq
 (.reg false [2, 3, 4, 27] [
 ⟨some 11, none, (.load true 4 (.t 2))⟩, ⟨some 12, none, (.call (.c (.fn (.func 18) [] [])) [(.t 11)])⟩, ⟨some 13, none, (.un .not (.t 12))⟩, ⟨some 14, none, (.mov (.t 13))⟩, ⟨some 15, some (14, false), (.load true 4 (.t 3))⟩, ⟨some 16, some (14, false), (.call (.c (.fn (.func 18) [] [])) [(.t 15)])⟩, ⟨some 17, some (14, false), (.un .not (.t 16))⟩, ⟨some 18, none, (.pick (.t 14) (.c (.bool true)) (.t 17))⟩, ⟨some 19, none, (.mov (.t 18))⟩, ⟨some 20, some (19, false), (.fptr 0 (.t 2))⟩, ⟨some 21, some (19, false), (.load false 1 (.t 20))⟩, ⟨some 22, some (19, false), (.len false (.t 21))⟩, ⟨some 23, some (19, false), (.fptr 0 (.t 3))⟩, ⟨some 24, some (19, false), (.load false 1 (.t 23))⟩, ⟨some 25, some (19, false), (.len false (.t 24))⟩, ⟨some 26, some (19, false), (.bin .neq (.t 22) (.t 25))⟩, ⟨some 27, none, (.pick (.t 19) (.c (.bool true)) (.t 26))⟩])
 (.cond (.t 27)
 (.seq
 (.reg false [4, 5] [
 ⟨some 28, none, (.build [(.sl .full []), (.int .i64 0), (.int .i64 0), (.int .i64 0)] [])⟩, ⟨none, none, (.store 4 (.t 4) (.t 28))⟩, ⟨some 5, none, (.mov (.c (.int .i64 2)))⟩])
 .ret)
 .skip))
 (.seq
 (.reg true [2, 4, 6, 7] [
 ⟨some 29, none, (.load true 4 (.t 2))⟩, ⟨some 30, none, (.call (.c (.fn (.func 23) [] [])) [(.t 29)])⟩, ⟨some 31, none, (.load true 4 (.t 3))⟩, ⟨some 32, none, (.call (.c (.fn (.func 23) [] [])) [(.t 31)])⟩, ⟨some 6, none, (.take 30)⟩, ⟨some 7, none, (.take 32)⟩])
 (.seq
 (.reg false [2, 4, 6, 7, 8] [
 ⟨some 8, none, (.mov (.c (.sl .full [])))⟩])
 (.seq
 (.seq
 (.reg false [2, 4, 6, 7, 8, 9] [
 ⟨some 9, none, (.mov (.c (.int .i64 0)))⟩])
 (.block 0
 (.loop
 (.seq
 (.seq
 (.reg false [2, 4, 6, 7, 8, 9, 42] [
 ⟨some 33, none, (.mov (.t 9))⟩, ⟨some 34, none, (.mov (.t 6))⟩, ⟨some 35, none, (.len false (.t 34))⟩, ⟨some 36, none, (.bin .lss (.t 33) (.t 35))⟩, ⟨some 37, none, (.mov (.t 36))⟩, ⟨some 38, some (37, true), (.mov (.t 9))⟩, ⟨some 39, some (37, true), (.mov (.t 7))⟩, ⟨some 40, some (37, true), (.len false (.t 39))⟩, ⟨some 41, some (37, true), (.bin .lss (.t 38) (.t 40))⟩, ⟨some 42, none, (.pick (.t 37) (.t 41) (.c (.bool false)))⟩])
 (.cond (.t 42)
 .skip
 (.exit 0)))
 (.seq
 (.block 1
 (.seq
 (.seq
 (.reg true [2, 4, 6, 7, 8, 9, 54] [
 ⟨some 45, none, (.mov (.t 6))⟩, ⟨some 46, none, (.mov (.t 9))⟩, ⟨some 47, none, (.idx 1 (.t 45) (.t 46))⟩, ⟨some 48, none, (.load false 1 (.t 47))⟩, ⟨some 49, none, (.mov (.t 7))⟩, ⟨some 50, none, (.mov (.t 9))⟩, ⟨some 51, none, (.idx 1 (.t 49) (.t 50))⟩, ⟨some 52, none, (.load false 1 (.t 51))⟩, ⟨some 53, none, (.bin .sub (.c (.int .i64 9223372036854775807)) (.t 52))⟩, ⟨some 54, none, (.bin .gtr (.t 48) (.t 53))⟩])
 (.cond (.t 54)
 (.seq
 (.reg false [4, 5] [
 ⟨some 55, none, (.build [(.sl .full []), (.int .i64 0), (.int .i64 0), (.int .i64 0)] [])⟩, ⟨none, none, (.store 4 (.t 4) (.t 55))⟩, ⟨some 5, none, (.mov (.c (.int .i64 5)))⟩])
 .ret)
 .skip))
 (.reg true [2, 4, 6, 7, 8, 9] [
 ⟨some 56, none, (.take 8)⟩, ⟨some 57, none, (.mov (.t 6))⟩, ⟨some 58, none, (.mov (.t 9))⟩, ⟨some 59, none, (.idx 1 (.t 57) (.t 58))⟩, ⟨some 60, none, (.load false 1 (.t 59))⟩, ⟨some 61, none, (.mov (.t 7))⟩, ⟨some 62, none, (.mov (.t 9))⟩, ⟨some 63, none, (.idx 1 (.t 61) (.t 62))⟩, ⟨some 64, none, (.load false 1 (.t 63))⟩, ⟨some 65, none, (.bin .add (.t 60) (.t 64))⟩, ⟨some 66, none, (.bslice 1 [(.t 65)])⟩, ⟨some 67, none, (.append 1 (.t 56) (.t 66))⟩, ⟨some 8, none, (.take 67)⟩])))
 (.reg false [2, 4, 6, 7, 8, 9] [
 ⟨some 43, none, (.mov (.t 9))⟩, ⟨some 44, none, (.bin .add (.t 43) (.c (.int .i64 1)))⟩, ⟨some 9, none, (.mov (.t 44))⟩]))))))
 (.seq
 (.reg false [4, 8, 10] [
 ⟨some 68, none, (.fptr 0 (.t 2))⟩, ⟨some 69, none, (.load false 1 (.t 68))⟩, ⟨some 70, none, (.len false (.t 69))⟩, ⟨some 10, none, (.mov (.t 70))⟩])
 (.seq
 (.reg true [4, 5] [
 ⟨some 71, none, (.mov (.t 8))⟩, ⟨some 72, none, (.mov (.t 10))⟩, ⟨some 73, none, (.slc 1 (.t 71) none (some (.t 72)) none)⟩, ⟨some 74, none, (.mov (.t 8))⟩, ⟨some 75, none, (.mov (.t 10))⟩, ⟨some 76, none, (.idx 1 (.t 74) (.t 75))⟩, ⟨some 77, none, (.load false 1 (.t 76))⟩, ⟨some 78, none, (.mov (.t 8))⟩, ⟨some 79, none, (.mov (.t 10))⟩, ⟨some 80, none, (.bin .add (.t 79) (.c (.int .i64 1)))⟩, ⟨some 81, none, (.idx 1 (.t 78) (.t 80))⟩, ⟨some 82, none, (.load false 1 (.t 81))⟩, ⟨some 83, none, (.mov (.t 8))⟩, ⟨some 84, none, (.mov (.t 10))⟩, ⟨some 85, none, (.bin .add (.t 84) (.c (.int .i64 2)))⟩, ⟨some 86, none, (.idx 1 (.t 83) (.t 85))⟩, ⟨some 87, none, (.load false 1 (.t 86))⟩, ⟨some 88, none, (.build [(.sl .full []), (.int .i64 0), (.int .i64 0), (.int .i64 0)] [(0, 1, (.t 73)), (1, 1, (.t 77)), (2, 1, (.t 82)), (3, 1, (.t 87))])⟩, ⟨none, none, (.store 4 (.t 4) (.t 88))⟩, ⟨some 5, none, (.mov (.c (.int .i64 0)))⟩])
 .ret)))))))
theorem op_constraintref37_Add {vals : List AV} {bs : List Box} {Q : AV → List Box → Prop} (hn : vals.length ≤ 89) (h : (⟨params 0 vals, bs, bs.length⟩ : St).fo true fun s => rc_constraintref37_Add.gp Tryd.prog true s (retP [.cell 4 true 4, .slot 5] Q)) : AM.Sem Tryd.prog 17 vals bs Q :=
  Sem.nrm (Sem.of (fn := Tryd.f17) (keeps := [(0, [2, 3, 4]), (1, [2, 3, 4, 27]), (2, [4, 5]), (3, [2, 4, 6, 7]), (4, [2, 4, 6, 7, 8]), (5, [2, 4, 6, 7, 8, 9]), (6, [2, 4, 6, 7, 8, 9, 42]), (8, [2, 4, 6, 7, 8, 9, 54]), (9, [4, 5]), (10, [2, 4, 6, 7, 8, 9]), (7, [2, 4, 6, 7, 8, 9]), (11, [4, 8, 10]), (12, [4, 5])]) (solo := []) Tryd.func17 rfl (by kernel_rfl) (by kernel_rfl) (by kernel_rfl) hn (run_gp h))

def rc_constraintref37_Same : RC :=
 (.seq
 (.reg false [2, 3] [
 ⟨some 2, none, (.box (.t 0))⟩, ⟨some 3, none, (.box (.t 1))⟩, ⟨some 4, none, (.mov (.c (.bool false)))⟩])
 (.seq
 (.reg true [4] [
 ⟨some 5, none, (.load true 4 (.t 2))⟩, ⟨some 6, none, (.call (.c (.fn (.func 23) [] [])) [(.t 5)])⟩, ⟨some 7, none, (.load true 4 (.t 3))⟩, ⟨some 8, none, (.call (.c (.fn (.func 23) [] [])) [(.t 7)])⟩, ⟨some 9, none, (.call (.c (.fn (.func 22) [] [])) [(.t 6), (.t 8)])⟩, ⟨some 4, none, (.take 9)⟩])
 .ret))
theorem op_constraintref37_Same {vals : List AV} {bs : List Box} {Q : AV → List Box → Prop} (hn : vals.length ≤ 10) (h : (⟨params 0 vals, bs, bs.length⟩ : St).fo true fun s => rc_constraintref37_Same.gp Tryd.prog true s (retP [.slot 4] Q)) : AM.Sem Tryd.prog 9 vals bs Q :=
  Sem.nrm (Sem.of (fn := Tryd.f9) (keeps := [(0, [2, 3]), (1, [4])]) (solo := []) Tryd.func9 rfl (by kernel_rfl) (by kernel_rfl) (by kernel_rfl) hn (run_gp h))

def rc_constraintref37_Total : RC :=
 (.seq
 (.reg false [1] [
 ⟨some 1, none, (.box (.t 0))⟩, ⟨some 2, none, (.mov (.c (.int .i64 0)))⟩])
 (.seq
 (.reg false [1, 3] [
 ⟨some 3, none, (.mov (.c (.int .i64 0)))⟩])
 (.seq
 (.seq
 (.reg false [1, 3, 4] [
 ⟨some 4, none, (.mov (.c (.int .i64 0)))⟩])
 (.block 0
 (.loop
 (.seq
 (.seq
 (.reg false [1, 3, 4, 9] [
 ⟨some 5, none, (.mov (.t 4))⟩, ⟨some 6, none, (.fptr 0 (.t 1))⟩, ⟨some 7, none, (.load false 1 (.t 6))⟩, ⟨some 8, none, (.len false (.t 7))⟩, ⟨some 9, none, (.bin .lss (.t 5) (.t 8))⟩])
 (.cond (.t 9)
 .skip
 (.exit 0)))
 (.seq
 (.block 1
 (.seq
 (.seq
 (.reg false [1, 3, 4, 19] [
 ⟨some 12, none, (.fptr 0 (.t 1))⟩, ⟨some 13, none, (.load false 1 (.t 12))⟩, ⟨some 14, none, (.mov (.t 4))⟩, ⟨some 15, none, (.idx 1 (.t 13) (.t 14))⟩, ⟨some 16, none, (.load false 1 (.t 15))⟩, ⟨some 17, none, (.mov (.t 3))⟩, ⟨some 18, none, (.bin .sub (.c (.int .i64 9223372036854775807)) (.t 17))⟩, ⟨some 19, none, (.bin .gtr (.t 16) (.t 18))⟩])
 (.cond (.t 19)
 (.seq
 (.reg false [2] [
 ⟨some 2, none, (.mov (.c (.int .i64 9223372036854775807)))⟩])
 .ret)
 .skip))
 (.reg false [1, 3, 4] [
 ⟨some 20, none, (.mov (.t 3))⟩, ⟨some 21, none, (.fptr 0 (.t 1))⟩, ⟨some 22, none, (.load false 1 (.t 21))⟩, ⟨some 23, none, (.mov (.t 4))⟩, ⟨some 24, none, (.idx 1 (.t 22) (.t 23))⟩, ⟨some 25, none, (.load false 1 (.t 24))⟩, ⟨some 26, none, (.minmax true (.t 25) (.c (.int .i64 0)))⟩, ⟨some 27, none, (.bin .add (.t 20) (.t 26))⟩, ⟨some 3, none, (.mov (.t 27))⟩])))
 (.reg false [1, 3, 4] [
 ⟨some 10, none, (.mov (.t 4))⟩, ⟨some 11, none, (.bin .add (.t 10) (.c (.int .i64 1)))⟩, ⟨some 4, none, (.mov (.t 11))⟩]))))))
 (.seq
 (.reg false [2] [
 ⟨some 28, none, (.mov (.t 3))⟩, ⟨some 2, none, (.mov (.t 28))⟩])
 .ret))))
theorem op_constraintref37_Total {vals : List AV} {bs : List Box} {Q : AV → List Box → Prop} (hn : vals.length ≤ 29) (h : (⟨params 0 vals, bs, bs.length⟩ : St).fo true fun s => rc_constraintref37_Total.gp Tryd.prog true s (retP [.slot 2] Q)) : AM.Sem Tryd.prog 19 vals bs Q :=
  Sem.nrm (Sem.of (fn := Tryd.f19) (keeps := [(0, [1]), (1, [1, 3]), (2, [1, 3, 4]), (3, [1, 3, 4, 9]), (5, [1, 3, 4, 19]), (6, [2]), (7, [1, 3, 4]), (4, [1, 3, 4]), (8, [2])]) (solo := []) Tryd.func19 rfl (by kernel_rfl) (by kernel_rfl) (by kernel_rfl) hn (run_gp h))

def rc_constraintref37_Decimal : RC :=
 (.seq
 (.reg false [0] [
 ⟨some 2, none, (.mov (.c (.str ⟨⟨[]⟩⟩)))⟩])
 (.seq
 (.seq
 (.reg false [0, 4] [
 ⟨some 3, none, (.mov (.t 0))⟩, ⟨some 4, none, (.bin .lss (.t 3) (.c (.int .i64 0)))⟩])
 (.cond (.t 4)
 (.seq
 (.reg false [2] [
 ⟨some 5, none, (.mov (.t 0))⟩, ⟨some 6, none, (.conv (some .u64) (.t 5))⟩, ⟨some 7, none, (.un .neg (.t 6))⟩, ⟨some 8, none, (.call (.c (.fn (.func 37) [] [])) [(.t 7)])⟩, ⟨some 9, none, (.bin .add (.c (.str ⟨⟨[45]⟩⟩)) (.t 8))⟩, ⟨some 2, none, (.mov (.t 9))⟩])
 .ret)
 .skip))
 (.seq
 (.reg false [2] [
 ⟨some 10, none, (.mov (.t 0))⟩, ⟨some 11, none, (.conv (some .u64) (.t 10))⟩, ⟨some 12, none, (.call (.c (.fn (.func 37) [] [])) [(.t 11)])⟩, ⟨some 2, none, (.mov (.t 12))⟩])
 .ret)))
theorem op_constraintref37_Decimal {vals : List AV} {bs : List Box} {Q : AV → List Box → Prop} (hn : vals.length ≤ 13) (h : (⟨params 0 vals, bs, bs.length⟩ : St).fo true fun s => rc_constraintref37_Decimal.gp Tryd.prog true s (retP [.slot 2] Q)) : AM.Sem Tryd.prog 32 vals bs Q :=
  Sem.nrm (Sem.of (fn := Tryd.f32) (keeps := [(0, [0]), (1, [0, 4]), (2, [2]), (3, [2])]) (solo := []) Tryd.func32 rfl (by kernel_rfl) (by kernel_rfl) (by kernel_rfl) hn (run_gp h))

def rc_constraintref37_digits : RC :=
 (.seq
 (.reg false [0] [
 ⟨some 2, none, (.mov (.c (.str ⟨⟨[]⟩⟩)))⟩])
 (.seq
 (.reg false [0, 3] [
 ⟨some 3, none, (.mov (.c (.str ⟨⟨[]⟩⟩)))⟩])
 (.seq
 (.block 0
 (.loop
 (.seq
 (.seq
 (.reg false [0, 3, 5] [
 ⟨some 4, none, (.mov (.t 0))⟩, ⟨some 5, none, (.bin .geq (.t 4) (.c (.int .u64 10)))⟩])
 (.cond (.t 5)
 .skip
 (.exit 0)))
 (.block 1
 (.seq
 (.reg false [0, 3] [
 ⟨some 6, none, (.mov (.t 0))⟩, ⟨some 7, none, (.bin .rem (.t 6) (.c (.int .u64 10)))⟩, ⟨some 8, none, (.conv (some .u8) (.t 7))⟩, ⟨some 9, none, (.bin .add (.c (.int .u8 48)) (.t 8))⟩, ⟨some 10, none, (.bslice 1 [(.t 9)])⟩, ⟨some 11, none, (.more .bts [(.t 10)])⟩, ⟨some 12, none, (.mov (.t 3))⟩, ⟨some 13, none, (.bin .add (.t 11) (.t 12))⟩, ⟨some 3, none, (.mov (.t 13))⟩])
 (.reg false [0, 3] [
 ⟨some 14, none, (.mov (.t 0))⟩, ⟨some 15, none, (.bin .quo (.t 14) (.c (.int .u64 10)))⟩, ⟨some 0, none, (.mov (.t 15))⟩]))))))
 (.seq
 (.reg false [2] [
 ⟨some 16, none, (.mov (.t 0))⟩, ⟨some 17, none, (.conv (some .u8) (.t 16))⟩, ⟨some 18, none, (.bin .add (.c (.int .u8 48)) (.t 17))⟩, ⟨some 19, none, (.bslice 1 [(.t 18)])⟩, ⟨some 20, none, (.more .bts [(.t 19)])⟩, ⟨some 21, none, (.mov (.t 3))⟩, ⟨some 22, none, (.bin .add (.t 20) (.t 21))⟩, ⟨some 2, none, (.mov (.t 22))⟩])
 .ret))))
theorem op_constraintref37_digits {vals : List AV} {bs : List Box} {Q : AV → List Box → Prop} (hn : vals.length ≤ 23) (h : (⟨params 0 vals, bs, bs.length⟩ : St).fo true fun s => rc_constraintref37_digits.gp Tryd.prog true s (retP [.slot 2] Q)) : AM.Sem Tryd.prog 37 vals bs Q :=
  Sem.nrm (Sem.of (fn := Tryd.f37) (keeps := [(0, [0]), (1, [0, 3]), (2, [0, 3, 5]), (3, [0, 3]), (4, [0, 3]), (5, [2])]) (solo := []) Tryd.func37 rfl (by kernel_rfl) (by kernel_rfl) (by kernel_rfl) hn (run_gp h))

def rc_constraintref37_Text : RC :=
 (.seq
 (.reg false [1] [
 ⟨some 1, none, (.box (.t 0))⟩, ⟨some 2, none, (.mov (.c (.str ⟨⟨[]⟩⟩)))⟩])
 (.seq
 (.reg false [1, 3] [
 ⟨some 3, none, (.mov (.c (.str ⟨⟨[]⟩⟩)))⟩])
 (.seq
 (.seq
 (.reg false [1, 3, 4] [
 ⟨some 4, none, (.mov (.c (.int .i64 0)))⟩])
 (.block 0
 (.loop
 (.seq
 (.seq
 (.reg false [1, 3, 4, 9] [
 ⟨some 5, none, (.mov (.t 4))⟩, ⟨some 6, none, (.fptr 0 (.t 1))⟩, ⟨some 7, none, (.load false 1 (.t 6))⟩, ⟨some 8, none, (.len false (.t 7))⟩, ⟨some 9, none, (.bin .lss (.t 5) (.t 8))⟩])
 (.cond (.t 9)
 .skip
 (.exit 0)))
 (.seq
 (.block 1
 (.seq
 (.reg false [1, 3, 4, 17] [
 ⟨some 12, none, (.fptr 0 (.t 1))⟩, ⟨some 13, none, (.load false 1 (.t 12))⟩, ⟨some 14, none, (.mov (.t 4))⟩, ⟨some 15, none, (.idx 1 (.t 13) (.t 14))⟩, ⟨some 16, none, (.load false 1 (.t 15))⟩, ⟨some 17, none, (.bin .neq (.t 16) (.c (.int .i64 0)))⟩])
 (.cond (.t 17)
 (.reg true [1, 3, 4] [
 ⟨some 18, none, (.mov (.t 3))⟩, ⟨some 19, none, (.bin .add (.t 18) (.c (.str ⟨⟨[114, 117, 108, 101, 32]⟩⟩)))⟩, ⟨some 20, none, (.mov (.t 4))⟩, ⟨some 21, none, (.call (.c (.fn (.func 32) [] [])) [(.t 20)])⟩, ⟨some 22, none, (.bin .add (.t 19) (.t 21))⟩, ⟨some 23, none, (.bin .add (.t 22) (.c (.str ⟨⟨[58, 32]⟩⟩)))⟩, ⟨some 24, none, (.fptr 0 (.t 1))⟩, ⟨some 25, none, (.load false 1 (.t 24))⟩, ⟨some 26, none, (.mov (.t 4))⟩, ⟨some 27, none, (.idx 1 (.t 25) (.t 26))⟩, ⟨some 28, none, (.load false 1 (.t 27))⟩, ⟨some 29, none, (.call (.c (.fn (.func 32) [] [])) [(.t 28)])⟩, ⟨some 30, none, (.bin .add (.t 23) (.t 29))⟩, ⟨some 31, none, (.bin .add (.t 30) (.c (.str ⟨⟨[10]⟩⟩)))⟩, ⟨some 3, none, (.mov (.t 31))⟩])
 .skip)))
 (.reg false [1, 3, 4] [
 ⟨some 10, none, (.mov (.t 4))⟩, ⟨some 11, none, (.bin .add (.t 10) (.c (.int .i64 1)))⟩, ⟨some 4, none, (.mov (.t 11))⟩]))))))
 (.seq
 (.reg true [2] [
 ⟨some 32, none, (.take 3)⟩, ⟨some 33, none, (.bin .add (.t 32) (.c (.str ⟨⟨[97, 112, 112, 108, 105, 99, 97, 116, 105, 111, 110, 115, 58, 32]⟩⟩)))⟩, ⟨some 34, none, (.load true 4 (.t 1))⟩, ⟨some 35, none, (.call (.c (.fn (.func 19) [] [])) [(.t 34)])⟩, ⟨some 36, none, (.call (.c (.fn (.func 32) [] [])) [(.t 35)])⟩, ⟨some 37, none, (.bin .add (.t 33) (.t 36))⟩, ⟨some 38, none, (.bin .add (.t 37) (.c (.str ⟨⟨[10, 116, 114, 105, 101, 100, 58, 32]⟩⟩)))⟩, ⟨some 39, none, (.fptr 1 (.t 1))⟩, ⟨some 40, none, (.load false 1 (.t 39))⟩, ⟨some 41, none, (.call (.c (.fn (.func 32) [] [])) [(.t 40)])⟩, ⟨some 42, none, (.bin .add (.t 38) (.t 41))⟩, ⟨some 43, none, (.bin .add (.t 42) (.c (.str ⟨⟨[10, 103, 111, 97, 108, 115, 58, 32]⟩⟩)))⟩, ⟨some 44, none, (.fptr 2 (.t 1))⟩, ⟨some 45, none, (.load false 1 (.t 44))⟩, ⟨some 46, none, (.call (.c (.fn (.func 32) [] [])) [(.t 45)])⟩, ⟨some 47, none, (.bin .add (.t 43) (.t 46))⟩, ⟨some 48, none, (.bin .add (.t 47) (.c (.str ⟨⟨[10, 115, 116, 101, 112, 115, 58, 32]⟩⟩)))⟩, ⟨some 49, none, (.fptr 3 (.t 1))⟩, ⟨some 50, none, (.load false 1 (.t 49))⟩, ⟨some 51, none, (.call (.c (.fn (.func 32) [] [])) [(.t 50)])⟩, ⟨some 52, none, (.bin .add (.t 48) (.t 51))⟩, ⟨some 53, none, (.bin .add (.t 52) (.c (.str ⟨⟨[10]⟩⟩)))⟩, ⟨some 2, none, (.take 53)⟩])
 .ret))))
theorem op_constraintref37_Text {vals : List AV} {bs : List Box} {Q : AV → List Box → Prop} (hn : vals.length ≤ 54) (h : (⟨params 0 vals, bs, bs.length⟩ : St).fo true fun s => rc_constraintref37_Text.gp Tryd.prog true s (retP [.slot 2] Q)) : AM.Sem Tryd.prog 21 vals bs Q :=
  Sem.nrm (Sem.of (fn := Tryd.f21) (keeps := [(0, [1]), (1, [1, 3]), (2, [1, 3, 4]), (3, [1, 3, 4, 9]), (5, [1, 3, 4, 17]), (6, [1, 3, 4]), (4, [1, 3, 4]), (7, [2])]) (solo := []) Tryd.func21 rfl (by kernel_rfl) (by kernel_rfl) (by kernel_rfl) hn (run_gp h))

def rc_constraintref03_SameInts : RC :=
 (.seq
 (.reg false [0, 1] [
 ⟨some 4, none, (.mov (.c (.bool false)))⟩])
 (.seq
 (.seq
 (.reg false [0, 1, 10] [
 ⟨some 6, none, (.mov (.t 0))⟩, ⟨some 7, none, (.len false (.t 6))⟩, ⟨some 8, none, (.mov (.t 1))⟩, ⟨some 9, none, (.len false (.t 8))⟩, ⟨some 10, none, (.bin .neq (.t 7) (.t 9))⟩])
 (.cond (.t 10)
 (.seq
 (.reg false [4] [
 ⟨some 4, none, (.mov (.c (.bool false)))⟩])
 .ret)
 .skip))
 (.seq
 (.seq
 (.reg false [0, 1, 5] [
 ⟨some 5, none, (.mov (.c (.int .i64 0)))⟩])
 (.block 0
 (.loop
 (.seq
 (.seq
 (.reg false [0, 1, 5, 20] [
 ⟨some 11, none, (.mov (.t 5))⟩, ⟨some 12, none, (.mov (.t 0))⟩, ⟨some 13, none, (.len false (.t 12))⟩, ⟨some 14, none, (.bin .lss (.t 11) (.t 13))⟩, ⟨some 15, none, (.mov (.t 14))⟩, ⟨some 16, some (15, true), (.mov (.t 5))⟩, ⟨some 17, some (15, true), (.mov (.t 1))⟩, ⟨some 18, some (15, true), (.len false (.t 17))⟩, ⟨some 19, some (15, true), (.bin .lss (.t 16) (.t 18))⟩, ⟨some 20, none, (.pick (.t 15) (.t 19) (.c (.bool false)))⟩])
 (.cond (.t 20)
 .skip
 (.exit 0)))
 (.seq
 (.block 1
 (.seq
 (.reg true [0, 1, 5, 31] [
 ⟨some 23, none, (.mov (.t 0))⟩, ⟨some 24, none, (.mov (.t 5))⟩, ⟨some 25, none, (.idx 1 (.t 23) (.t 24))⟩, ⟨some 26, none, (.load false 1 (.t 25))⟩, ⟨some 27, none, (.mov (.t 1))⟩, ⟨some 28, none, (.mov (.t 5))⟩, ⟨some 29, none, (.idx 1 (.t 27) (.t 28))⟩, ⟨some 30, none, (.load false 1 (.t 29))⟩, ⟨some 31, none, (.bin .neq (.t 26) (.t 30))⟩])
 (.cond (.t 31)
 (.seq
 (.reg false [4] [
 ⟨some 4, none, (.mov (.c (.bool false)))⟩])
 .ret)
 .skip)))
 (.reg false [0, 1, 5] [
 ⟨some 21, none, (.mov (.t 5))⟩, ⟨some 22, none, (.bin .add (.t 21) (.c (.int .i64 1)))⟩, ⟨some 5, none, (.mov (.t 22))⟩]))))))
 (.seq
 (.reg false [4] [
 ⟨some 4, none, (.mov (.c (.bool true)))⟩])
 .ret))))
theorem op_constraintref03_SameInts {vals : List AV} {bs : List Box} {Q : AV → List Box → Prop} (hn : vals.length ≤ 32) (h : (⟨params 0 vals, bs, bs.length⟩ : St).fo true fun s => rc_constraintref03_SameInts.gp Tryd.prog true s (retP [.slot 4] Q)) : AM.Sem Tryd.prog 22 vals bs Q :=
  Sem.nrm (Sem.of (fn := Tryd.f22) (keeps := [(0, [0, 1]), (1, [0, 1, 10]), (2, [4]), (3, [0, 1, 5]), (4, [0, 1, 5, 20]), (6, [0, 1, 5, 31]), (7, [4]), (5, [0, 1, 5]), (8, [4])]) (solo := []) Tryd.func22 rfl (by kernel_rfl) (by kernel_rfl) (by kernel_rfl) hn (run_gp h))

def rc_constraintlaw37_great : RC :=
 (.seq
 (.reg false [1] [
 ⟨some 1, none, (.box (.t 0))⟩, ⟨some 2, none, (.mov (.c (.bool false)))⟩])
 (.seq
 (.reg false [2] [
 ⟨some 3, none, (.fptr 0 (.t 1))⟩, ⟨some 4, none, (.load false 1 (.t 3))⟩, ⟨some 5, none, (.len false (.t 4))⟩, ⟨some 6, none, (.bin .gtr (.t 5) (.c (.int .i64 200)))⟩, ⟨some 2, none, (.mov (.t 6))⟩])
 .ret))
theorem op_constraintlaw37_great {vals : List AV} {bs : List Box} {Q : AV → List Box → Prop} (hn : vals.length ≤ 7) (h : (⟨params 0 vals, bs, bs.length⟩ : St).fo true fun s => rc_constraintlaw37_great.gp Tryd.prog true s (retP [.slot 2] Q)) : AM.Sem Tryd.prog 16 vals bs Q :=
  Sem.nrm (Sem.of (fn := Tryd.f16) (keeps := [(0, [1]), (1, [2])]) (solo := []) Tryd.func16 rfl (by kernel_rfl) (by kernel_rfl) (by kernel_rfl) hn (run_gp h))

def rc_constraintlaw37_live : RC :=
 (.seq
 (.reg false [] [
 ⟨some 0, none, (.mov (.c (.bool false)))⟩])
 (.seq
 (.reg false [1] [
 ⟨some 4, none, (.build [(.int .i64 0), (.int .i64 0), (.int .i64 0), (.int .i64 0), (.sl .full [])] [(0, 1, (.c (.int .i64 2)))])⟩, ⟨some 5, none, (.build [(.int .i64 0), (.int .i64 0), (.int .i64 0), (.int .i64 0), (.sl .full [])] [(0, 1, (.c (.int .i64 4))), (3, 1, (.c (.int .i64 1)))])⟩, ⟨some 6, none, (.build [(.int .i64 0), (.int .i64 0), (.int .i64 0), (.int .i64 0), (.sl .full [])] [(0, 1, (.c (.int .i64 7)))])⟩, ⟨some 7, none, (.bslice 5 [(.t 4), (.t 5), (.t 6)])⟩, ⟨some 8, none, (.call (.c (.fn (.func 10) [] [])) [(.c (.int .i64 2)), (.t 7)])⟩, ⟨some 1, none, (.box (.c (.agg [(.sl .full []), (.int .i64 0), (.int .i64 0), (.int .i64 0)])))⟩, ⟨none, none, (.store 4 (.t 1) (.t 8))⟩])
 (.seq
 (.reg false [1, 2, 3] [
 ⟨some 10, none, (.load true 4 (.t 1))⟩, ⟨some 11, none, (.load true 4 (.t 1))⟩, ⟨some 12, none, (.call (.c (.fn (.func 13) [] [])) [(.t 10), (.t 11)])⟩, ⟨some 9, none, (.mov (.t 12))⟩, ⟨some 13, none, (.ext 0 (.t 9))⟩, ⟨some 14, none, (.ext 1 (.t 9))⟩, ⟨some 2, none, (.box (.c (.agg [(.sl .full []), (.int .i64 0), (.int .i64 0), (.int .i64 0)])))⟩, ⟨none, none, (.store 4 (.t 2) (.t 13))⟩, ⟨some 3, none, (.mov (.t 14))⟩])
 (.seq
 (.reg false [0] [
 ⟨some 15, none, (.load true 4 (.t 1))⟩, ⟨some 16, none, (.bslice 1 [(.c (.int .i64 0)), (.c (.int .i64 1))])⟩, ⟨some 17, none, (.build [(.sl .full []), (.int .i64 0), (.int .i64 0), (.int .i64 0)] [(0, 1, (.t 16)), (2, 1, (.c (.int .i64 1))), (3, 1, (.c (.int .i64 3)))])⟩, ⟨some 18, none, (.call (.c (.fn (.func 9) [] [])) [(.t 15), (.t 17)])⟩, ⟨some 19, none, (.mov (.t 18))⟩, ⟨some 20, some (19, true), (.mov (.t 3))⟩, ⟨some 21, some (19, true), (.bin .eql (.t 20) (.c (.int .i64 0)))⟩, ⟨some 22, none, (.pick (.t 19) (.t 21) (.c (.bool false)))⟩, ⟨some 23, none, (.mov (.t 22))⟩, ⟨some 24, some (23, true), (.load true 4 (.t 2))⟩, ⟨some 25, some (23, true), (.call (.c (.fn (.func 15) [] [])) [(.t 24)])⟩, ⟨some 26, some (23, true), (.bin .eql (.t 25) (.c (.int .i64 2)))⟩, ⟨some 27, none, (.pick (.t 23) (.t 26) (.c (.bool false)))⟩, ⟨some 28, none, (.mov (.t 27))⟩, ⟨some 29, some (28, true), (.load true 4 (.t 1))⟩, ⟨some 30, some (28, true), (.load true 4 (.t 1))⟩, ⟨some 31, some (28, true), (.call (.c (.fn (.func 14) [] [])) [(.t 29), (.t 30)])⟩, ⟨some 32, none, (.pick (.t 28) (.t 31) (.c (.bool false)))⟩, ⟨some 33, none, (.mov (.t 32))⟩, ⟨some 34, some (33, true), (.load true 4 (.t 1))⟩, ⟨some 35, some (33, true), (.load true 4 (.t 2))⟩, ⟨some 36, some (33, true), (.call (.c (.fn (.func 14) [] [])) [(.t 34), (.t 35)])⟩, ⟨some 37, some (33, true), (.un .not (.t 36))⟩, ⟨some 38, none, (.pick (.t 33) (.t 37) (.c (.bool false)))⟩, ⟨some 39, none, (.mov (.t 38))⟩, ⟨some 40, some (39, true), (.load true 4 (.t 1))⟩, ⟨some 41, some (39, true), (.call (.c (.fn (.func 20) [] [])) [(.t 40)])⟩, ⟨some 42, some (39, true), (.bin .eql (.t 41) (.c (.str ⟨⟨[114, 117, 108, 101, 32, 49, 58, 32, 49, 10, 97, 112, 112, 108, 105, 99, 97, 116, 105, 111, 110, 115, 58, 32, 49, 10, 116, 114, 105, 101, 100, 58, 32, 48, 10, 103, 111, 97, 108, 115, 58, 32, 49, 10, 115, 116, 101, 112, 115, 58, 32, 51, 10]⟩⟩)))⟩, ⟨some 43, none, (.pick (.t 39) (.t 42) (.c (.bool false)))⟩, ⟨some 0, none, (.mov (.t 43))⟩])
 .ret))))
theorem op_constraintlaw37_live {vals : List AV} {bs : List Box} {Q : AV → List Box → Prop} (hn : vals.length ≤ 44) (h : (⟨params 0 vals, bs, bs.length⟩ : St).fo true fun s => rc_constraintlaw37_live.gp Tryd.prog true s (retP [.slot 0] Q)) : AM.Sem Tryd.prog 12 vals bs Q :=
  Sem.nrm (Sem.of (fn := Tryd.f12) (keeps := [(0, []), (1, [1]), (2, [1, 2, 3]), (3, [0])]) (solo := []) Tryd.func12 rfl (by kernel_rfl) (by kernel_rfl) (by kernel_rfl) hn (run_gp h))

def rc_constraintlaw37_ProfileOf : RC :=
 (.seq
 (.reg false [0, 1] [
 ⟨some 4, none, (.mov (.c (.bool false)))⟩])
 (.seq
 (.reg false [4] [
 ⟨some 5, none, (.mov (.t 1))⟩, ⟨some 6, none, (.len false (.t 5))⟩, ⟨some 7, none, (.bin .gtr (.t 6) (.c (.int .i64 500)))⟩, ⟨some 8, none, (.mov (.t 7))⟩, ⟨some 9, some (8, false), (.mov (.t 0))⟩, ⟨some 10, some (8, false), (.mov (.t 1))⟩, ⟨some 11, some (8, false), (.call (.c (.fn (.func 10) [] [])) [(.t 9), (.t 10)])⟩, ⟨some 12, some (8, false), (.mov (.t 0))⟩, ⟨some 13, some (8, false), (.mov (.t 1))⟩, ⟨some 14, some (8, false), (.call (.c (.fn (.func 11) [] [])) [(.t 12), (.t 13)])⟩, ⟨some 15, some (8, false), (.call (.c (.fn (.func 9) [] [])) [(.t 11), (.t 14)])⟩, ⟨some 16, some (8, false), (.mov (.t 15))⟩, ⟨some 17, some (16, true), (.call (.c (.fn (.func 12) [] [])) [])⟩, ⟨some 18, some (8, false), (.pick (.t 16) (.t 17) (.c (.bool false)))⟩, ⟨some 19, none, (.pick (.t 8) (.c (.bool true)) (.t 18))⟩, ⟨some 4, none, (.mov (.t 19))⟩])
 .ret))
theorem op_constraintlaw37_ProfileOf {vals : List AV} {bs : List Box} {Q : AV → List Box → Prop} (hn : vals.length ≤ 20) (h : (⟨params 0 vals, bs, bs.length⟩ : St).fo true fun s => rc_constraintlaw37_ProfileOf.gp Tryd.prog true s (retP [.slot 4] Q)) : AM.Sem Tryd.prog 3 vals bs Q :=
  Sem.nrm (Sem.of (fn := Tryd.f3) (keeps := [(0, [0, 1]), (1, [4])]) (solo := []) Tryd.func3 rfl (by kernel_rfl) (by kernel_rfl) (by kernel_rfl) hn (run_gp h))

def rc_constraintlaw37_ProfileSplits : RC :=
 (.seq
 (.reg false [0, 1, 2] [
 ⟨some 6, none, (.mov (.c (.bool false)))⟩])
 (.seq
 (.seq
 (.reg false [0, 1, 2, 11] [
 ⟨some 10, none, (.call (.c (.fn (.func 12) [] [])) [])⟩, ⟨some 11, none, (.un .not (.t 10))⟩])
 (.cond (.t 11)
 (.seq
 (.reg false [6] [
 ⟨some 6, none, (.mov (.c (.bool false)))⟩])
 .ret)
 .skip))
 (.seq
 (.seq
 (.reg false [0, 1, 2, 19] [
 ⟨some 12, none, (.mov (.t 1))⟩, ⟨some 13, none, (.len false (.t 12))⟩, ⟨some 14, none, (.bin .gtr (.t 13) (.c (.int .i64 300)))⟩, ⟨some 15, none, (.mov (.t 14))⟩, ⟨some 16, some (15, false), (.mov (.t 2))⟩, ⟨some 17, some (15, false), (.len false (.t 16))⟩, ⟨some 18, some (15, false), (.bin .gtr (.t 17) (.c (.int .i64 300)))⟩, ⟨some 19, none, (.pick (.t 15) (.c (.bool true)) (.t 18))⟩])
 (.cond (.t 19)
 (.seq
 (.reg false [6] [
 ⟨some 6, none, (.mov (.c (.bool true)))⟩])
 .ret)
 .skip))
 (.seq
 (.reg false [0, 1, 2, 7] [
 ⟨some 20, none, (.mov (.t 0))⟩, ⟨some 21, none, (.bslice 5 [])⟩, ⟨some 22, none, (.mov (.t 1))⟩, ⟨some 23, none, (.append 5 (.t 21) (.t 22))⟩, ⟨some 24, none, (.mov (.t 2))⟩, ⟨some 25, none, (.append 5 (.t 23) (.t 24))⟩, ⟨some 26, none, (.call (.c (.fn (.func 10) [] [])) [(.t 20), (.t 25)])⟩, ⟨some 7, none, (.box (.c (.agg [(.sl .full []), (.int .i64 0), (.int .i64 0), (.int .i64 0)])))⟩, ⟨none, none, (.store 4 (.t 7) (.t 26))⟩])
 (.seq
 (.reg false [1, 2, 7, 8, 9] [
 ⟨some 28, none, (.mov (.t 0))⟩, ⟨some 29, none, (.mov (.t 1))⟩, ⟨some 30, none, (.call (.c (.fn (.func 10) [] [])) [(.t 28), (.t 29)])⟩, ⟨some 31, none, (.mov (.t 0))⟩, ⟨some 32, none, (.mov (.t 2))⟩, ⟨some 33, none, (.call (.c (.fn (.func 10) [] [])) [(.t 31), (.t 32)])⟩, ⟨some 34, none, (.call (.c (.fn (.func 13) [] [])) [(.t 30), (.t 33)])⟩, ⟨some 27, none, (.mov (.t 34))⟩, ⟨some 35, none, (.ext 0 (.t 27))⟩, ⟨some 36, none, (.ext 1 (.t 27))⟩, ⟨some 8, none, (.box (.c (.agg [(.sl .full []), (.int .i64 0), (.int .i64 0), (.int .i64 0)])))⟩, ⟨none, none, (.store 4 (.t 8) (.t 35))⟩, ⟨some 9, none, (.mov (.t 36))⟩])
 (.seq
 (.reg true [6] [
 ⟨some 37, none, (.take 9)⟩, ⟨some 38, none, (.bin .eql (.t 37) (.c (.int .i64 0)))⟩, ⟨some 39, none, (.take 38)⟩, ⟨some 40, some (39, true), (.load true 4 (.t 7))⟩, ⟨some 41, some (39, true), (.load true 4 (.t 8))⟩, ⟨some 42, some (39, true), (.call (.c (.fn (.func 14) [] [])) [(.t 40), (.t 41)])⟩, ⟨some 43, none, (.pick (.t 39) (.t 42) (.c (.bool false)))⟩, ⟨some 44, none, (.take 43)⟩, ⟨some 45, some (44, true), (.fptr 3 (.t 7))⟩, ⟨some 46, some (44, true), (.load false 1 (.t 45))⟩, ⟨some 47, some (44, true), (.take 1)⟩, ⟨some 48, some (44, true), (.len false (.t 47))⟩, ⟨some 49, some (44, true), (.take 2)⟩, ⟨some 50, some (44, true), (.len false (.t 49))⟩, ⟨some 51, some (44, true), (.bin .add (.t 48) (.t 50))⟩, ⟨some 52, some (44, true), (.bin .eql (.t 46) (.t 51))⟩, ⟨some 53, none, (.pick (.t 44) (.t 52) (.c (.bool false)))⟩, ⟨some 54, none, (.take 53)⟩, ⟨some 55, some (54, true), (.load true 4 (.t 7))⟩, ⟨some 56, some (54, true), (.call (.c (.fn (.func 15) [] [])) [(.t 55)])⟩, ⟨some 57, some (54, true), (.fptr 2 (.t 7))⟩, ⟨some 58, some (54, true), (.load false 1 (.t 57))⟩, ⟨some 59, some (54, true), (.bin .add (.t 56) (.t 58))⟩, ⟨some 60, some (54, true), (.fptr 3 (.t 7))⟩, ⟨some 61, some (54, true), (.load false 1 (.t 60))⟩, ⟨some 62, some (54, true), (.bin .leq (.t 59) (.t 61))⟩, ⟨some 63, none, (.pick (.t 54) (.t 62) (.c (.bool false)))⟩, ⟨some 6, none, (.take 63)⟩])
 .ret))))))
theorem op_constraintlaw37_ProfileSplits {vals : List AV} {bs : List Box} {Q : AV → List Box → Prop} (hn : vals.length ≤ 64) (h : (⟨params 0 vals, bs, bs.length⟩ : St).fo true fun s => rc_constraintlaw37_ProfileSplits.gp Tryd.prog true s (retP [.slot 6] Q)) : AM.Sem Tryd.prog 4 vals bs Q :=
  Sem.nrm (Sem.of (fn := Tryd.f4) (keeps := [(0, [0, 1, 2]), (1, [0, 1, 2, 11]), (2, [6]), (3, [0, 1, 2, 19]), (4, [6]), (5, [0, 1, 2, 7]), (6, [1, 2, 7, 8, 9]), (7, [6])]) (solo := []) Tryd.func4 rfl (by kernel_rfl) (by kernel_rfl) (by kernel_rfl) hn (run_gp h))

def rc_constraintlaw37_ProfileAdds : RC :=
 (.seq
 (.reg false [2, 3] [
 ⟨some 2, none, (.box (.t 0))⟩, ⟨some 3, none, (.box (.t 1))⟩, ⟨some 4, none, (.mov (.c (.bool false)))⟩])
 (.seq
 (.seq
 (.reg false [2, 3, 14] [
 ⟨some 9, none, (.load true 4 (.t 2))⟩, ⟨some 10, none, (.call (.c (.fn (.func 16) [] [])) [(.t 9)])⟩, ⟨some 11, none, (.mov (.t 10))⟩, ⟨some 12, some (11, false), (.load true 4 (.t 3))⟩, ⟨some 13, some (11, false), (.call (.c (.fn (.func 16) [] [])) [(.t 12)])⟩, ⟨some 14, none, (.pick (.t 11) (.c (.bool true)) (.t 13))⟩])
 (.cond (.t 14)
 (.seq
 (.reg false [4] [
 ⟨some 4, none, (.mov (.c (.bool true)))⟩])
 .ret)
 .skip))
 (.seq
 (.reg false [2, 3, 5, 6] [
 ⟨some 16, none, (.load true 4 (.t 2))⟩, ⟨some 17, none, (.load true 4 (.t 3))⟩, ⟨some 18, none, (.call (.c (.fn (.func 13) [] [])) [(.t 16), (.t 17)])⟩, ⟨some 15, none, (.mov (.t 18))⟩, ⟨some 19, none, (.ext 0 (.t 15))⟩, ⟨some 20, none, (.ext 1 (.t 15))⟩, ⟨some 5, none, (.box (.c (.agg [(.sl .full []), (.int .i64 0), (.int .i64 0), (.int .i64 0)])))⟩, ⟨none, none, (.store 4 (.t 5) (.t 19))⟩, ⟨some 6, none, (.mov (.t 20))⟩])
 (.seq
 (.reg false [5, 6, 7, 8] [
 ⟨some 22, none, (.load true 4 (.t 2))⟩, ⟨some 23, none, (.load true 4 (.t 3))⟩, ⟨some 24, none, (.call (.c (.fn (.func 17) [] [])) [(.t 22), (.t 23)])⟩, ⟨some 21, none, (.mov (.t 24))⟩, ⟨some 25, none, (.ext 0 (.t 21))⟩, ⟨some 26, none, (.ext 1 (.t 21))⟩, ⟨some 7, none, (.box (.c (.agg [(.sl .full []), (.int .i64 0), (.int .i64 0), (.int .i64 0)])))⟩, ⟨none, none, (.store 4 (.t 7) (.t 25))⟩, ⟨some 8, none, (.mov (.t 26))⟩])
 (.seq
 (.reg false [4] [
 ⟨some 27, none, (.load true 4 (.t 5))⟩, ⟨some 28, none, (.load true 4 (.t 7))⟩, ⟨some 29, none, (.call (.c (.fn (.func 9) [] [])) [(.t 27), (.t 28)])⟩, ⟨some 30, none, (.mov (.t 29))⟩, ⟨some 31, some (30, true), (.mov (.t 6))⟩, ⟨some 32, some (30, true), (.mov (.t 8))⟩, ⟨some 33, some (30, true), (.bin .eql (.t 31) (.t 32))⟩, ⟨some 34, none, (.pick (.t 30) (.t 33) (.c (.bool false)))⟩, ⟨some 35, none, (.mov (.t 34))⟩, ⟨some 36, some (35, true), (.call (.c (.fn (.func 12) [] [])) [])⟩, ⟨some 37, none, (.pick (.t 35) (.t 36) (.c (.bool false)))⟩, ⟨some 4, none, (.mov (.t 37))⟩])
 .ret)))))
theorem op_constraintlaw37_ProfileAdds {vals : List AV} {bs : List Box} {Q : AV → List Box → Prop} (hn : vals.length ≤ 38) (h : (⟨params 0 vals, bs, bs.length⟩ : St).fo true fun s => rc_constraintlaw37_ProfileAdds.gp Tryd.prog true s (retP [.slot 4] Q)) : AM.Sem Tryd.prog 5 vals bs Q :=
  Sem.nrm (Sem.of (fn := Tryd.f5) (keeps := [(0, [2, 3]), (1, [2, 3, 14]), (2, [4]), (3, [2, 3, 5, 6]), (4, [5, 6, 7, 8]), (5, [4])]) (solo := []) Tryd.func5 rfl (by kernel_rfl) (by kernel_rfl) (by kernel_rfl) hn (run_gp h))

def rc_constraintlaw37_ProfileSums : RC :=
 (.seq
 (.reg false [2, 3] [
 ⟨some 2, none, (.box (.t 0))⟩, ⟨some 3, none, (.box (.t 1))⟩, ⟨some 4, none, (.mov (.c (.bool false)))⟩])
 (.seq
 (.seq
 (.reg false [2, 3, 14] [
 ⟨some 13, none, (.call (.c (.fn (.func 12) [] [])) [])⟩, ⟨some 14, none, (.un .not (.t 13))⟩])
 (.cond (.t 14)
 (.seq
 (.reg false [4] [
 ⟨some 4, none, (.mov (.c (.bool false)))⟩])
 .ret)
 .skip))
 (.seq
 (.seq
 (.reg false [2, 3, 20] [
 ⟨some 15, none, (.load true 4 (.t 2))⟩, ⟨some 16, none, (.call (.c (.fn (.func 16) [] [])) [(.t 15)])⟩, ⟨some 17, none, (.mov (.t 16))⟩, ⟨some 18, some (17, false), (.load true 4 (.t 3))⟩, ⟨some 19, some (17, false), (.call (.c (.fn (.func 16) [] [])) [(.t 18)])⟩, ⟨some 20, none, (.pick (.t 17) (.c (.bool true)) (.t 19))⟩])
 (.cond (.t 20)
 (.seq
 (.reg false [4] [
 ⟨some 4, none, (.mov (.c (.bool true)))⟩])
 .ret)
 .skip))
 (.seq
 (.reg false [2, 3, 5, 6] [
 ⟨some 22, none, (.load true 4 (.t 2))⟩, ⟨some 23, none, (.load true 4 (.t 3))⟩, ⟨some 24, none, (.call (.c (.fn (.func 13) [] [])) [(.t 22), (.t 23)])⟩, ⟨some 21, none, (.mov (.t 24))⟩, ⟨some 25, none, (.ext 0 (.t 21))⟩, ⟨some 26, none, (.ext 1 (.t 21))⟩, ⟨some 5, none, (.box (.c (.agg [(.sl .full []), (.int .i64 0), (.int .i64 0), (.int .i64 0)])))⟩, ⟨none, none, (.store 4 (.t 5) (.t 25))⟩, ⟨some 6, none, (.mov (.t 26))⟩])
 (.seq
 (.reg false [2, 3, 5, 6, 7, 8] [
 ⟨some 28, none, (.load true 4 (.t 3))⟩, ⟨some 29, none, (.load true 4 (.t 2))⟩, ⟨some 30, none, (.call (.c (.fn (.func 13) [] [])) [(.t 28), (.t 29)])⟩, ⟨some 27, none, (.mov (.t 30))⟩, ⟨some 31, none, (.ext 0 (.t 27))⟩, ⟨some 32, none, (.ext 1 (.t 27))⟩, ⟨some 7, none, (.box (.c (.agg [(.sl .full []), (.int .i64 0), (.int .i64 0), (.int .i64 0)])))⟩, ⟨none, none, (.store 4 (.t 7) (.t 31))⟩, ⟨some 8, none, (.mov (.t 32))⟩])
 (.seq
 (.seq
 (.reg false [2, 3, 5, 6, 41] [
 ⟨some 33, none, (.mov (.t 6))⟩, ⟨some 34, none, (.mov (.t 8))⟩, ⟨some 35, none, (.bin .neq (.t 33) (.t 34))⟩, ⟨some 36, none, (.mov (.t 35))⟩, ⟨some 37, some (36, false), (.load true 4 (.t 5))⟩, ⟨some 38, some (36, false), (.load true 4 (.t 7))⟩, ⟨some 39, some (36, false), (.call (.c (.fn (.func 14) [] [])) [(.t 37), (.t 38)])⟩, ⟨some 40, some (36, false), (.un .not (.t 39))⟩, ⟨some 41, none, (.pick (.t 36) (.c (.bool true)) (.t 40))⟩])
 (.cond (.t 41)
 (.seq
 (.reg false [4] [
 ⟨some 4, none, (.mov (.c (.bool false)))⟩])
 .ret)
 .skip))
 (.seq
 (.reg true [2, 3, 5, 6, 9, 10] [
 ⟨some 43, none, (.load true 4 (.t 2))⟩, ⟨some 44, none, (.fptr 0 (.t 2))⟩, ⟨some 45, none, (.load false 1 (.t 44))⟩, ⟨some 46, none, (.len false (.t 45))⟩, ⟨some 47, none, (.mk 1 (.int .i64 0) (.t 46) (.t 46))⟩, ⟨some 48, none, (.build [(.sl .full []), (.int .i64 0), (.int .i64 0), (.int .i64 0)] [(0, 1, (.t 47))])⟩, ⟨some 49, none, (.call (.c (.fn (.func 13) [] [])) [(.t 43), (.t 48)])⟩, ⟨some 42, none, (.take 49)⟩, ⟨some 50, none, (.ext 0 (.t 42))⟩, ⟨some 51, none, (.ext 1 (.t 42))⟩, ⟨some 9, none, (.box (.c (.agg [(.sl .full []), (.int .i64 0), (.int .i64 0), (.int .i64 0)])))⟩, ⟨none, none, (.store 4 (.t 9) (.t 50))⟩, ⟨some 10, none, (.take 51)⟩])
 (.seq
 (.seq
 (.reg false [2, 3, 5, 6, 66] [
 ⟨some 52, none, (.mov (.t 10))⟩, ⟨some 53, none, (.bin .eql (.t 52) (.c (.int .i64 0)))⟩, ⟨some 54, none, (.mov (.t 53))⟩, ⟨some 55, some (54, true), (.load true 4 (.t 9))⟩, ⟨some 56, some (54, true), (.load true 4 (.t 2))⟩, ⟨some 57, some (54, true), (.call (.c (.fn (.func 14) [] [])) [(.t 55), (.t 56)])⟩, ⟨some 58, some (54, true), (.un .not (.t 57))⟩, ⟨some 59, none, (.pick (.t 54) (.t 58) (.c (.bool false)))⟩, ⟨some 60, none, (.mov (.t 59))⟩, ⟨some 61, some (60, false), (.mov (.t 10))⟩, ⟨some 62, some (60, false), (.bin .eql (.t 61) (.c (.int .i64 0)))⟩, ⟨some 63, some (60, false), (.load true 4 (.t 2))⟩, ⟨some 64, some (60, false), (.call (.c (.fn (.func 18) [] [])) [(.t 63)])⟩, ⟨some 65, some (60, false), (.more (.eqB true) [(.t 62), (.t 64)])⟩, ⟨some 66, none, (.pick (.t 60) (.c (.bool true)) (.t 65))⟩])
 (.cond (.t 66)
 (.seq
 (.reg false [4] [
 ⟨some 4, none, (.mov (.c (.bool false)))⟩])
 .ret)
 .skip))
 (.seq
 (.seq
 (.reg false [2, 3, 5, 68] [
 ⟨some 67, none, (.mov (.t 6))⟩, ⟨some 68, none, (.bin .neq (.t 67) (.c (.int .i64 0)))⟩])
 (.cond (.t 68)
 (.seq
 (.reg false [4] [
 ⟨some 69, none, (.fptr 0 (.t 5))⟩, ⟨some 70, none, (.load false 1 (.t 69))⟩, ⟨some 71, none, (.len false (.t 70))⟩, ⟨some 72, none, (.bin .eql (.t 71) (.c (.int .i64 0)))⟩, ⟨some 4, none, (.mov (.t 72))⟩])
 .ret)
 .skip))
 (.seq
 (.reg true [5, 11, 12] [
 ⟨some 73, none, (.load true 4 (.t 2))⟩, ⟨some 74, none, (.call (.c (.fn (.func 15) [] [])) [(.t 73)])⟩, ⟨some 75, none, (.load true 4 (.t 3))⟩, ⟨some 76, none, (.call (.c (.fn (.func 15) [] [])) [(.t 75)])⟩, ⟨some 11, none, (.take 74)⟩, ⟨some 12, none, (.take 76)⟩])
 (.seq
 (.reg false [4] [
 ⟨some 77, none, (.mov (.t 11))⟩, ⟨some 78, none, (.bin .gtr (.t 77) (.c (.int .i64 4611686018427387904)))⟩, ⟨some 79, none, (.mov (.t 78))⟩, ⟨some 80, some (79, false), (.mov (.t 12))⟩, ⟨some 81, some (79, false), (.bin .gtr (.t 80) (.c (.int .i64 4611686018427387903)))⟩, ⟨some 82, none, (.pick (.t 79) (.c (.bool true)) (.t 81))⟩, ⟨some 83, none, (.mov (.t 82))⟩, ⟨some 84, some (83, false), (.load true 4 (.t 5))⟩, ⟨some 85, some (83, false), (.call (.c (.fn (.func 15) [] [])) [(.t 84)])⟩, ⟨some 86, some (83, false), (.mov (.t 11))⟩, ⟨some 87, some (83, false), (.mov (.t 12))⟩, ⟨some 88, some (83, false), (.bin .add (.t 86) (.t 87))⟩, ⟨some 89, some (83, false), (.bin .eql (.t 85) (.t 88))⟩, ⟨some 90, none, (.pick (.t 83) (.c (.bool true)) (.t 89))⟩, ⟨some 4, none, (.mov (.t 90))⟩])
 .ret)))))))))))
theorem op_constraintlaw37_ProfileSums {vals : List AV} {bs : List Box} {Q : AV → List Box → Prop} (hn : vals.length ≤ 91) (h : (⟨params 0 vals, bs, bs.length⟩ : St).fo true fun s => rc_constraintlaw37_ProfileSums.gp Tryd.prog true s (retP [.slot 4] Q)) : AM.Sem Tryd.prog 6 vals bs Q :=
  Sem.nrm (Sem.of (fn := Tryd.f6) (keeps := [(0, [2, 3]), (1, [2, 3, 14]), (2, [4]), (3, [2, 3, 20]), (4, [4]), (5, [2, 3, 5, 6]), (6, [2, 3, 5, 6, 7, 8]), (7, [2, 3, 5, 6, 41]), (8, [4]), (9, [2, 3, 5, 6, 9, 10]), (10, [2, 3, 5, 6, 66]), (11, [4]), (12, [2, 3, 5, 68]), (13, [4]), (14, [5, 11, 12]), (15, [4])]) (solo := []) Tryd.func6 rfl (by kernel_rfl) (by kernel_rfl) (by kernel_rfl) hn (run_gp h))

def rc_constraintlaw37_ProfileSame : RC :=
 (.seq
 (.reg false [2, 3] [
 ⟨some 2, none, (.box (.t 0))⟩, ⟨some 3, none, (.box (.t 1))⟩, ⟨some 4, none, (.mov (.c (.bool false)))⟩])
 (.seq
 (.seq
 (.reg false [2, 3, 10] [
 ⟨some 5, none, (.load true 4 (.t 2))⟩, ⟨some 6, none, (.call (.c (.fn (.func 16) [] [])) [(.t 5)])⟩, ⟨some 7, none, (.mov (.t 6))⟩, ⟨some 8, some (7, false), (.load true 4 (.t 3))⟩, ⟨some 9, some (7, false), (.call (.c (.fn (.func 16) [] [])) [(.t 8)])⟩, ⟨some 10, none, (.pick (.t 7) (.c (.bool true)) (.t 9))⟩])
 (.cond (.t 10)
 (.seq
 (.reg false [4] [
 ⟨some 4, none, (.mov (.c (.bool true)))⟩])
 .ret)
 .skip))
 (.seq
 (.reg true [4] [
 ⟨some 11, none, (.load true 4 (.t 2))⟩, ⟨some 12, none, (.load true 4 (.t 3))⟩, ⟨some 13, none, (.call (.c (.fn (.func 14) [] [])) [(.t 11), (.t 12)])⟩, ⟨some 14, none, (.load true 4 (.t 2))⟩, ⟨some 15, none, (.load true 4 (.t 3))⟩, ⟨some 16, none, (.call (.c (.fn (.func 9) [] [])) [(.t 14), (.t 15)])⟩, ⟨some 17, none, (.more (.eqB false) [(.t 13), (.t 16)])⟩, ⟨some 18, none, (.take 17)⟩, ⟨some 19, some (18, true), (.load true 4 (.t 2))⟩, ⟨some 20, some (18, true), (.load true 4 (.t 2))⟩, ⟨some 21, some (18, true), (.call (.c (.fn (.func 14) [] [])) [(.t 19), (.t 20)])⟩, ⟨some 22, none, (.pick (.t 18) (.t 21) (.c (.bool false)))⟩, ⟨some 23, none, (.take 22)⟩, ⟨some 24, some (23, true), (.load true 4 (.t 2))⟩, ⟨some 25, some (23, true), (.call (.c (.fn (.func 15) [] [])) [(.t 24)])⟩, ⟨some 26, some (23, true), (.load true 4 (.t 2))⟩, ⟨some 27, some (23, true), (.call (.c (.fn (.func 19) [] [])) [(.t 26)])⟩, ⟨some 28, some (23, true), (.bin .eql (.t 25) (.t 27))⟩, ⟨some 29, none, (.pick (.t 23) (.t 28) (.c (.bool false)))⟩, ⟨some 30, none, (.take 29)⟩, ⟨some 31, some (30, true), (.call (.c (.fn (.func 12) [] [])) [])⟩, ⟨some 32, none, (.pick (.t 30) (.t 31) (.c (.bool false)))⟩, ⟨some 4, none, (.take 32)⟩])
 .ret)))
theorem op_constraintlaw37_ProfileSame {vals : List AV} {bs : List Box} {Q : AV → List Box → Prop} (hn : vals.length ≤ 33) (h : (⟨params 0 vals, bs, bs.length⟩ : St).fo true fun s => rc_constraintlaw37_ProfileSame.gp Tryd.prog true s (retP [.slot 4] Q)) : AM.Sem Tryd.prog 7 vals bs Q :=
  Sem.nrm (Sem.of (fn := Tryd.f7) (keeps := [(0, [2, 3]), (1, [2, 3, 10]), (2, [4]), (3, [4])]) (solo := []) Tryd.func7 rfl (by kernel_rfl) (by kernel_rfl) (by kernel_rfl) hn (run_gp h))

def rc_constraintlaw37_ProfileTexts : RC :=
 (.seq
 (.reg false [2, 3] [
 ⟨some 2, none, (.box (.t 0))⟩, ⟨some 3, none, (.box (.t 1))⟩, ⟨some 4, none, (.mov (.c (.bool false)))⟩])
 (.seq
 (.seq
 (.reg false [2, 3, 8] [
 ⟨some 7, none, (.call (.c (.fn (.func 12) [] [])) [])⟩, ⟨some 8, none, (.un .not (.t 7))⟩])
 (.cond (.t 8)
 (.seq
 (.reg false [4] [
 ⟨some 4, none, (.mov (.c (.bool false)))⟩])
 .ret)
 .skip))
 (.seq
 (.seq
 (.reg false [2, 3, 14] [
 ⟨some 9, none, (.load true 4 (.t 2))⟩, ⟨some 10, none, (.call (.c (.fn (.func 16) [] [])) [(.t 9)])⟩, ⟨some 11, none, (.mov (.t 10))⟩, ⟨some 12, some (11, false), (.load true 4 (.t 3))⟩, ⟨some 13, some (11, false), (.call (.c (.fn (.func 16) [] [])) [(.t 12)])⟩, ⟨some 14, none, (.pick (.t 11) (.c (.bool true)) (.t 13))⟩])
 (.cond (.t 14)
 (.seq
 (.reg false [4] [
 ⟨some 4, none, (.mov (.c (.bool true)))⟩])
 .ret)
 .skip))
 (.seq
 (.reg true [2, 3, 5, 6] [
 ⟨some 15, none, (.load true 4 (.t 2))⟩, ⟨some 16, none, (.call (.c (.fn (.func 20) [] [])) [(.t 15)])⟩, ⟨some 17, none, (.load true 4 (.t 3))⟩, ⟨some 18, none, (.call (.c (.fn (.func 20) [] [])) [(.t 17)])⟩, ⟨some 5, none, (.take 16)⟩, ⟨some 6, none, (.take 18)⟩])
 (.seq
 (.seq
 (.reg false [2, 3, 5, 6, 28] [
 ⟨some 19, none, (.mov (.t 5))⟩, ⟨some 20, none, (.load true 4 (.t 2))⟩, ⟨some 21, none, (.call (.c (.fn (.func 21) [] [])) [(.t 20)])⟩, ⟨some 22, none, (.bin .neq (.t 19) (.t 21))⟩, ⟨some 23, none, (.mov (.t 22))⟩, ⟨some 24, some (23, false), (.mov (.t 6))⟩, ⟨some 25, some (23, false), (.load true 4 (.t 3))⟩, ⟨some 26, some (23, false), (.call (.c (.fn (.func 21) [] [])) [(.t 25)])⟩, ⟨some 27, some (23, false), (.bin .neq (.t 24) (.t 26))⟩, ⟨some 28, none, (.pick (.t 23) (.c (.bool true)) (.t 27))⟩])
 (.cond (.t 28)
 (.seq
 (.reg false [4] [
 ⟨some 4, none, (.mov (.c (.bool false)))⟩])
 .ret)
 .skip))
 (.seq
 (.reg false [4] [
 ⟨some 29, none, (.fptr 0 (.t 2))⟩, ⟨some 30, none, (.load false 1 (.t 29))⟩, ⟨some 31, none, (.len false (.t 30))⟩, ⟨some 32, none, (.fptr 0 (.t 3))⟩, ⟨some 33, none, (.load false 1 (.t 32))⟩, ⟨some 34, none, (.len false (.t 33))⟩, ⟨some 35, none, (.bin .neq (.t 31) (.t 34))⟩, ⟨some 36, none, (.mov (.t 35))⟩, ⟨some 37, some (36, false), (.load true 4 (.t 2))⟩, ⟨some 38, some (36, false), (.call (.c (.fn (.func 18) [] [])) [(.t 37)])⟩, ⟨some 39, some (36, false), (.un .not (.t 38))⟩, ⟨some 40, none, (.pick (.t 36) (.c (.bool true)) (.t 39))⟩, ⟨some 41, none, (.mov (.t 40))⟩, ⟨some 42, some (41, false), (.load true 4 (.t 3))⟩, ⟨some 43, some (41, false), (.call (.c (.fn (.func 18) [] [])) [(.t 42)])⟩, ⟨some 44, some (41, false), (.un .not (.t 43))⟩, ⟨some 45, none, (.pick (.t 41) (.c (.bool true)) (.t 44))⟩, ⟨some 46, none, (.mov (.t 45))⟩, ⟨some 47, some (46, false), (.mov (.t 5))⟩, ⟨some 48, some (46, false), (.mov (.t 6))⟩, ⟨some 49, some (46, false), (.bin .eql (.t 47) (.t 48))⟩, ⟨some 50, some (46, false), (.load true 4 (.t 2))⟩, ⟨some 51, some (46, false), (.load true 4 (.t 3))⟩, ⟨some 52, some (46, false), (.call (.c (.fn (.func 14) [] [])) [(.t 50), (.t 51)])⟩, ⟨some 53, some (46, false), (.more (.eqB false) [(.t 49), (.t 52)])⟩, ⟨some 54, none, (.pick (.t 46) (.c (.bool true)) (.t 53))⟩, ⟨some 4, none, (.mov (.t 54))⟩])
 .ret))))))
theorem op_constraintlaw37_ProfileTexts {vals : List AV} {bs : List Box} {Q : AV → List Box → Prop} (hn : vals.length ≤ 55) (h : (⟨params 0 vals, bs, bs.length⟩ : St).fo true fun s => rc_constraintlaw37_ProfileTexts.gp Tryd.prog true s (retP [.slot 4] Q)) : AM.Sem Tryd.prog 8 vals bs Q :=
  Sem.nrm (Sem.of (fn := Tryd.f8) (keeps := [(0, [2, 3]), (1, [2, 3, 8]), (2, [4]), (3, [2, 3, 14]), (4, [4]), (5, [2, 3, 5, 6]), (6, [2, 3, 5, 6, 28]), (7, [4]), (8, [4])]) (solo := []) Tryd.func8 rfl (by kernel_rfl) (by kernel_rfl) (by kernel_rfl) hn (run_gp h))

theorem opS_profile_numbers {vals : List AV} {bs : List Box} {Q : AV → List Box → Prop} (hn : vals.length ≤ 14) (h : (⟨params 0 vals, bs, bs.length⟩ : St).fo false fun s => rc_profile_numbers.gp Tryd.prog false s (retP [.slot 2] Q)) : AM.Sem Tryd.prog 24 vals bs Q :=
  Sem.nrm (Sem.of (fn := Tryd.f24) (keeps := [(0, [1]), (1, [2]), (1000000, [13]), (2000001, [0, 1, 3, 4, 5, 6, 7, 8, 9, 2, 10, 11]), (3000001, [0, 0, 2, 0, 0, 0, 0, 0, 0, 0, 1, 0])]) (solo := []) Tryd.func24 rfl (by kernel_rfl) (by kernel_rfl) (by kernel_rfl) hn (run_gp h))

theorem opS_profile_Add_1 {vals : List AV} {bs : List Box} {Q : AV → List Box → Prop} (hn : vals.length ≤ 5) (h : (⟨params 0 vals, bs, bs.length⟩ : St).fo false fun s => rc_profile_Add_1.gp Tryd.prog false s (retP [.slot 2] Q)) : AM.Sem Tryd.prog 25 vals bs Q :=
  Sem.nrm (Sem.of (fn := Tryd.f25) (keeps := [(0, [0]), (1, [2])]) (solo := []) Tryd.func25 rfl (by kernel_rfl) (by kernel_rfl) (by kernel_rfl) hn (run_gp h))

theorem opS_slices_ContainsFunc_int_int {vals : List AV} {bs : List Box} {Q : AV → List Box → Prop} (hn : vals.length ≤ 9) (h : (⟨params 0 vals, bs, bs.length⟩ : St).fo false fun s => rc_slices_ContainsFunc_int_int.gp Tryd.prog false s (retP [.slot 4] Q)) : AM.Sem Tryd.prog 26 vals bs Q :=
  Sem.nrm (Sem.of (fn := Tryd.f26) (keeps := [(0, [0, 1]), (1, [4])]) (solo := []) Tryd.func26 rfl (by kernel_rfl) (by kernel_rfl) (by kernel_rfl) hn (run_gp h))

theorem opS_slices_IndexFunc_int_int {vals : List AV} {bs : List Box} {Q : AV → List Box → Prop} (hn : vals.length ≤ 19) (h : (⟨params 0 vals, bs, bs.length⟩ : St).fo false fun s => rc_slices_IndexFunc_int_int.gp Tryd.prog false s (retP [.slot 4] Q)) : AM.Sem Tryd.prog 34 vals bs Q :=
  Sem.nrm (Sem.of (fn := Tryd.f34) (keeps := [(0, [0, 1]), (1, [0, 1, 7, 8]), (2, [0, 1, 7, 8, 9]), (3, [0, 1, 5, 7, 8]), (4, [0, 1, 5, 7, 8, 16]), (5, [4]), (6, [0, 1, 7, 8]), (7, [4])]) (solo := []) Tryd.func34 rfl (by kernel_rfl) (by kernel_rfl) (by kernel_rfl) hn (run_gp h))

theorem opS_slices_Clone_int_int {vals : List AV} {bs : List Box} {Q : AV → List Box → Prop} (hn : vals.length ≤ 8) (h : (⟨params 0 vals, bs, bs.length⟩ : St).fo false fun s => rc_slices_Clone_int_int.gp Tryd.prog false s (retP [.slot 2] Q)) : AM.Sem Tryd.prog 33 vals bs Q :=
  Sem.nrm (Sem.of (fn := Tryd.f33) (keeps := [(0, [0]), (1, [0, 4]), (2, [2]), (3, [2]), (1000000, [7])]) (solo := []) Tryd.func33 rfl (by kernel_rfl) (by kernel_rfl) (by kernel_rfl) hn (run_gp h))

end Go.CK
