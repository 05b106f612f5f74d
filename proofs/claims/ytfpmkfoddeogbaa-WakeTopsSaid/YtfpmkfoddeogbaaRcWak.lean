/-
  WAKE: the small code of functions of the program, printed by wip/gen/rc.py, each checked against the program by the kernel. By an AI agent.
-/
import Derived.Test.YtfpmkfoddeogbaaProg
import Derived.Test.YtfpmkfoddeogbaaAmP
namespace Go.CK
open Go.AM Go.Proofs

def rc_wake_Affected : RC :=
 (.seq
 (.reg false [0, 1] [
 ⟨some 4, none, (.mov (.c (.sl .full [])))⟩])
 (.seq
 (.reg false [0, 1, 5] [
 ⟨some 11, none, (.mov (.t 1))⟩, ⟨some 12, none, (.len false (.t 11))⟩, ⟨some 13, none, (.eff .mkM [(.t 12)])⟩, ⟨some 5, none, (.mov (.t 13))⟩])
 (.seq
 (.seq
 (.reg false [0, 5, 14, 15, 16] [
 ⟨some 14, none, (.mov (.t 1))⟩, ⟨some 15, none, (.len false (.t 14))⟩, ⟨some 16, none, (.mov (.c (.int .i64 0)))⟩])
 (.block 0
 (.loop
 (.seq
 (.reg false [0, 5, 14, 15, 16, 17] [
 ⟨some 17, none, (.bin .lss (.t 16) (.t 15))⟩])
 (.seq
 (.cond (.t 17)
 .skip
 (.exit 0))
 (.seq
 (.block 1
 (.seq
 (.reg false [0, 5, 7, 14, 15, 16] [
 ⟨some 18, none, (.idx 1 (.t 14) (.t 16))⟩, ⟨some 19, none, (.load false 1 (.t 18))⟩, ⟨some 7, none, (.mov (.t 19))⟩])
 (.reg false [0, 5, 14, 15, 16] [
 ⟨some 20, none, (.mov (.t 5))⟩, ⟨some 21, none, (.mov (.t 7))⟩, ⟨some 22, none, (.build [] [])⟩, ⟨none, none, (.eff .setM [(.t 20), (.t 21), (.t 22)])⟩])))
 (.reg false [0, 5, 14, 15, 16] [
 ⟨some 23, none, (.bin .add (.t 16) (.c (.int .i64 1)))⟩, ⟨some 16, none, (.mov (.t 23))⟩])))))))
 (.seq
 (.reg false [0, 5, 8] [
 ⟨some 8, none, (.mov (.c (.sl .full [])))⟩])
 (.seq
 (.seq
 (.reg false [5, 8, 24, 25, 26] [
 ⟨some 24, none, (.mov (.t 0))⟩, ⟨some 25, none, (.len false (.t 24))⟩, ⟨some 26, none, (.mov (.c (.int .i64 0)))⟩])
 (.block 2
 (.loop
 (.seq
 (.reg false [5, 8, 24, 25, 26, 27] [
 ⟨some 27, none, (.bin .lss (.t 26) (.t 25))⟩])
 (.seq
 (.cond (.t 27)
 .skip
 (.exit 2))
 (.seq
 (.block 3
 (.seq
 (.reg false [5, 8, 10, 24, 25, 26] [
 ⟨some 28, none, (.idx 3 (.t 24) (.t 26))⟩, ⟨some 29, none, (.load true 3 (.t 28))⟩, ⟨some 10, none, (.box (.c (.agg [(.int .i64 0), (.str ⟨⟨[]⟩⟩), (.sl .full [])])))⟩, ⟨none, none, (.store 3 (.t 10) (.t 29))⟩])
 (.seq
 (.reg false [5, 8, 10, 24, 25, 26, 35] [
 ⟨some 30, none, (.fptr 1 (.t 10))⟩, ⟨some 31, none, (.load true 2 (.t 30))⟩, ⟨some 32, none, (.call (.c (.fn (.func 55) [] [])) [(.t 31)])⟩, ⟨some 33, none, (.mov (.t 5))⟩, ⟨some 34, none, (.mkfn (.func 73) [(.t 33)] [])⟩, ⟨some 35, none, (.call (.c (.fn (.func 56) [] [])) [(.t 32), (.t 34)])⟩])
 (.cond (.t 35)
 (.reg false [5, 8, 24, 25, 26] [
 ⟨some 36, none, (.mov (.t 8))⟩, ⟨some 37, none, (.fptr 0 (.t 10))⟩, ⟨some 38, none, (.load false 1 (.t 37))⟩, ⟨some 39, none, (.bslice 1 [(.t 38)])⟩, ⟨some 40, none, (.eff (.appB 1) [(.t 36), (.t 39)])⟩, ⟨some 8, none, (.mov (.t 40))⟩])
 .skip))))
 (.reg false [5, 8, 24, 25, 26] [
 ⟨some 41, none, (.bin .add (.t 26) (.c (.int .i64 1)))⟩, ⟨some 26, none, (.mov (.t 41))⟩])))))))
 (.seq
 (.reg false [8] [
 ⟨some 42, none, (.mov (.t 8))⟩, ⟨some 43, none, (.call (.c (.fn (.func 74) [] [])) [(.t 42)])⟩])
 (.seq
 (.reg false [4] [
 ⟨some 44, none, (.mov (.t 8))⟩, ⟨some 45, none, (.call (.c (.fn (.func 75) [] [])) [(.t 44)])⟩, ⟨some 4, none, (.mov (.t 45))⟩])
 .ret)))))))
theorem op_wake_Affected {vals : List AV} {bs : List Box} {Q : AV → List Box → Prop} (hn : vals.length ≤ 46) (h : (⟨params 0 vals, bs, bs.length⟩ : St).fo true fun s => rc_wake_Affected.gp Try.prog true s (retP [.slot 4] Q)) : AM.Sem Try.prog 30 vals bs Q :=
  Sem.nrm (Sem.of (fn := Try.f30) (keeps := [(0, [0, 1]), (1, [0, 1, 5]), (2, [0, 5, 14, 15, 16]), (3, [0, 5, 14, 15, 16, 17]), (4, [0, 5, 7, 14, 15, 16]), (5, [0, 5, 14, 15, 16]), (6, [0, 5, 14, 15, 16]), (7, [0, 5, 8]), (8, [5, 8, 24, 25, 26]), (9, [5, 8, 24, 25, 26, 27]), (10, [5, 8, 10, 24, 25, 26]), (11, [5, 8, 10, 24, 25, 26, 35]), (12, [5, 8, 24, 25, 26]), (13, [5, 8, 24, 25, 26]), (14, [8]), (15, [4]), (1000000, [40])]) (solo := []) Try.func30 rfl (by kernel_rfl) (by kernel_rfl) (by kernel_rfl) hn (run_gp h))

def rc_wake_Frames : RC :=
 (.seq
 (.reg false [0, 2] [
 ⟨some 2, none, (.mov (.c (.sl .full [])))⟩])
 (.seq
 (.reg false [0, 2, 3] [
 ⟨some 6, none, (.mov (.t 0))⟩, ⟨some 7, none, (.len false (.t 6))⟩, ⟨some 8, none, (.mk 5 (.agg [(.int .i64 0), (.str ⟨⟨[]⟩⟩), (.sl .full []), (.int .i64 0), (.int .i64 0)]) (.c (.int .i64 0)) (.t 7))⟩, ⟨some 3, none, (.box (.c (.sl .full [])))⟩, ⟨none, none, (.store 1 (.t 3) (.t 8))⟩])
 (.seq
 (.seq
 (.reg false [2, 3, 10] [
 ⟨some 9, none, (.mov (.t 0))⟩, ⟨some 10, none, (.call (.c (.fn (.func 80) [] [])) [(.t 9)])⟩])
 (.block 0
 (.range (.t 10) [11, 12]
 (.reg false [3, 5] [
 ⟨some 5, none, (.mov (.t 12))⟩])
 (.block 1
 (.reg false [] [
 ⟨some 13, none, (.load false 1 (.t 3))⟩, ⟨some 14, none, (.mov (.t 5))⟩, ⟨some 15, none, (.build [(.int .i64 0), (.str ⟨⟨[]⟩⟩), (.sl .full []), (.int .i64 0), (.int .i64 0)] [(3, 1, (.t 14)), (4, 1, (.c (.int .i64 (-1))))])⟩, ⟨some 16, none, (.bslice 5 [(.t 15)])⟩, ⟨some 17, none, (.append 5 (.t 13) (.t 16))⟩, ⟨none, none, (.store 1 (.t 3) (.t 17))⟩])))))
 (.seq
 (.reg false [2] [
 ⟨some 18, none, (.load false 1 (.t 3))⟩, ⟨some 2, none, (.mov (.t 18))⟩])
 .ret))))
theorem op_wake_Frames {vals : List AV} {bs : List Box} {Q : AV → List Box → Prop} (hn : vals.length ≤ 19) (h : (⟨params 0 vals, bs, bs.length⟩ : St).fo true fun s => rc_wake_Frames.gp Try.prog true s (retP [.slot 2] Q)) : AM.Sem Try.prog 36 vals bs Q :=
  Sem.nrm (Sem.of (fn := Try.f36) (keeps := [(0, [0, 2]), (1, [0, 2, 3]), (2, [2, 3, 10]), (3, [3, 5]), (4, []), (5, [2])]) (solo := []) Try.func36 rfl (by kernel_rfl) (by kernel_rfl) (by kernel_rfl) hn (run_gp h))

def rc_wake_Push : RC :=
 (.seq
 (.reg false [0, 1, 2] [
 ⟨some 6, none, (.mov (.c (.sl .full [])))⟩, ⟨some 7, none, (.mov (.c (.int .i64 0)))⟩])
 (.seq
 (.reg false [0, 8] [
 ⟨some 9, none, (.mov (.t 1))⟩, ⟨some 10, none, (.mov (.t 2))⟩, ⟨some 11, none, (.call (.c (.fn (.func 30) [] [])) [(.t 9), (.t 10)])⟩, ⟨some 12, none, (.call (.c (.fn (.func 36) [] [])) [(.t 11)])⟩, ⟨some 8, none, (.mov (.t 12))⟩])
 (.seq
 (.seq
 (.reg false [0, 8, 18] [
 ⟨some 13, none, (.mov (.t 0))⟩, ⟨some 14, none, (.len false (.t 13))⟩, ⟨some 15, none, (.mov (.t 8))⟩, ⟨some 16, none, (.len false (.t 15))⟩, ⟨some 17, none, (.bin .add (.t 14) (.t 16))⟩, ⟨some 18, none, (.bin .gtr (.t 17) (.c (.int .i64 1000)))⟩])
 (.cond (.t 18)
 (.seq
 (.reg false [6, 7] [
 ⟨some 6, none, (.mov (.c (.sl .full [])))⟩, ⟨some 7, none, (.mov (.c (.int .i64 6)))⟩])
 .ret)
 .skip))
 (.seq
 (.reg false [6, 7] [
 ⟨some 19, none, (.mov (.t 0))⟩, ⟨some 20, none, (.mov (.t 0))⟩, ⟨some 21, none, (.len false (.t 20))⟩, ⟨some 22, none, (.mov (.t 0))⟩, ⟨some 23, none, (.len false (.t 22))⟩, ⟨some 24, none, (.slc 5 (.t 19) none (some (.t 21)) (some (.t 23)))⟩, ⟨some 25, none, (.mov (.t 8))⟩, ⟨some 26, none, (.append 5 (.t 24) (.t 25))⟩, ⟨some 6, none, (.mov (.t 26))⟩, ⟨some 7, none, (.mov (.c (.int .i64 0)))⟩])
 .ret))))
theorem op_wake_Push {vals : List AV} {bs : List Box} {Q : AV → List Box → Prop} (hn : vals.length ≤ 27) (h : (⟨params 0 vals, bs, bs.length⟩ : St).fo true fun s => rc_wake_Push.gp Try.prog true s (retP [.slot 6, .slot 7] Q)) : AM.Sem Try.prog 33 vals bs Q :=
  Sem.nrm (Sem.of (fn := Try.f33) (keeps := [(0, [0, 1, 2]), (1, [0, 8]), (2, [0, 8, 18]), (3, [6, 7]), (4, [6, 7])]) (solo := []) Try.func33 rfl (by kernel_rfl) (by kernel_rfl) (by kernel_rfl) hn (run_gp h))

def rc_wake_set_has : RC :=
 (.seq
 (.reg false [0, 1] [
 ⟨some 4, none, (.mov (.c (.bool false)))⟩])
 (.seq
 (.reg false [6] [
 ⟨some 8, none, (.mov (.t 0))⟩, ⟨some 9, none, (.mov (.t 1))⟩, ⟨some 10, none, (.eff (.getM true (.agg [])) [(.t 8), (.t 9)])⟩, ⟨some 7, none, (.mov (.t 10))⟩, ⟨some 11, none, (.ext 0 (.t 7))⟩, ⟨some 12, none, (.ext 1 (.t 7))⟩, ⟨some 5, none, (.box (.c (.agg [])))⟩, ⟨none, none, (.store 0 (.t 5) (.t 11))⟩, ⟨some 6, none, (.mov (.t 12))⟩])
 (.seq
 (.reg false [4] [
 ⟨some 13, none, (.mov (.t 6))⟩, ⟨some 4, none, (.mov (.t 13))⟩])
 .ret)))
theorem op_wake_set_has {vals : List AV} {bs : List Box} {Q : AV → List Box → Prop} (hn : vals.length ≤ 14) (h : (⟨params 0 vals, bs, bs.length⟩ : St).fo true fun s => rc_wake_set_has.gp Try.prog true s (retP [.slot 4] Q)) : AM.Sem Try.prog 73 vals bs Q :=
  Sem.nrm (Sem.of (fn := Try.f73) (keeps := [(0, [0, 1]), (1, [6]), (2, [4])]) (solo := []) Try.func73 rfl (by kernel_rfl) (by kernel_rfl) (by kernel_rfl) hn (run_gp h))

def rc_constraintref22_Affected : RC :=
 (.seq
 (.reg false [0, 1] [
 ⟨some 4, none, (.mov (.c (.sl .full [])))⟩])
 (.seq
 (.reg false [0, 1, 5] [
 ⟨some 5, none, (.mov (.c (.sl .full [])))⟩])
 (.seq
 (.seq
 (.reg false [0, 1, 5, 6] [
 ⟨some 6, none, (.mov (.c (.int .i64 0)))⟩])
 (.block 0
 (.loop
 (.seq
 (.seq
 (.reg false [0, 1, 5, 6, 15] [
 ⟨some 12, none, (.mov (.t 6))⟩, ⟨some 13, none, (.mov (.t 0))⟩, ⟨some 14, none, (.len false (.t 13))⟩, ⟨some 15, none, (.bin .lss (.t 12) (.t 14))⟩])
 (.cond (.t 15)
 .skip
 (.exit 0)))
 (.seq
 (.block 1
 (.seq
 (.reg false [0, 1, 5, 6, 7] [
 ⟨some 7, none, (.mov (.c (.bool false)))⟩])
 (.seq
 (.reg false [0, 1, 5, 6, 7, 8] [
 ⟨some 18, none, (.mov (.t 0))⟩, ⟨some 19, none, (.mov (.t 6))⟩, ⟨some 20, none, (.idx 3 (.t 18) (.t 19))⟩, ⟨some 21, none, (.fptr 1 (.t 20))⟩, ⟨some 22, none, (.load true 2 (.t 21))⟩, ⟨some 23, none, (.call (.c (.fn (.func 76) [] [])) [(.t 22)])⟩, ⟨some 8, none, (.mov (.t 23))⟩])
 (.seq
 (.seq
 (.reg false [0, 1, 5, 6, 7, 8, 9] [
 ⟨some 9, none, (.mov (.c (.int .i64 0)))⟩])
 (.block 2
 (.loop
 (.seq
 (.seq
 (.reg false [0, 1, 5, 6, 7, 8, 9, 27] [
 ⟨some 24, none, (.mov (.t 9))⟩, ⟨some 25, none, (.mov (.t 8))⟩, ⟨some 26, none, (.len false (.t 25))⟩, ⟨some 27, none, (.bin .lss (.t 24) (.t 26))⟩])
 (.cond (.t 27)
 .skip
 (.exit 2)))
 (.seq
 (.block 3
 (.reg false [0, 1, 5, 6, 7, 8, 9] [
 ⟨some 30, none, (.mov (.t 7))⟩, ⟨some 31, none, (.mov (.t 30))⟩, ⟨some 32, some (31, false), (.mov (.t 1))⟩, ⟨some 33, some (31, false), (.mov (.t 8))⟩, ⟨some 34, some (31, false), (.mov (.t 9))⟩, ⟨some 35, some (31, false), (.idx 1 (.t 33) (.t 34))⟩, ⟨some 36, some (31, false), (.load false 1 (.t 35))⟩, ⟨some 37, some (31, false), (.call (.c (.fn (.func 77) [] [])) [(.t 32), (.t 36)])⟩, ⟨some 38, none, (.pick (.t 31) (.c (.bool true)) (.t 37))⟩, ⟨some 7, none, (.mov (.t 38))⟩]))
 (.reg false [0, 1, 5, 6, 7, 8, 9] [
 ⟨some 28, none, (.mov (.t 9))⟩, ⟨some 29, none, (.bin .add (.t 28) (.c (.int .i64 1)))⟩, ⟨some 9, none, (.mov (.t 29))⟩]))))))
 (.seq
 (.seq
 (.reg false [0, 1, 5, 6, 49] [
 ⟨some 39, none, (.mov (.t 7))⟩, ⟨some 40, none, (.un .not (.t 39))⟩, ⟨some 41, none, (.mov (.t 40))⟩, ⟨some 42, some (41, false), (.mov (.t 5))⟩, ⟨some 43, some (41, false), (.mov (.t 0))⟩, ⟨some 44, some (41, false), (.mov (.t 6))⟩, ⟨some 45, some (41, false), (.idx 3 (.t 43) (.t 44))⟩, ⟨some 46, some (41, false), (.fptr 0 (.t 45))⟩, ⟨some 47, some (41, false), (.load false 1 (.t 46))⟩, ⟨some 48, some (41, false), (.call (.c (.fn (.func 77) [] [])) [(.t 42), (.t 47)])⟩, ⟨some 49, none, (.pick (.t 41) (.c (.bool true)) (.t 48))⟩])
 (.cond (.t 49)
 (.exit 1)
 .skip))
 (.seq
 (.reg false [0, 1, 5, 6, 10] [
 ⟨some 10, none, (.mov (.c (.int .i64 0)))⟩])
 (.seq
 (.block 4
 (.loop
 (.seq
 (.seq
 (.reg true [0, 1, 5, 6, 10, 65] [
 ⟨some 50, none, (.take 10)⟩, ⟨some 51, none, (.take 5)⟩, ⟨some 52, none, (.len false (.t 51))⟩, ⟨some 53, none, (.bin .lss (.t 50) (.t 52))⟩, ⟨some 54, none, (.take 53)⟩, ⟨some 55, some (54, true), (.take 5)⟩, ⟨some 56, some (54, true), (.take 10)⟩, ⟨some 57, some (54, true), (.idx 1 (.t 55) (.t 56))⟩, ⟨some 58, some (54, true), (.load false 1 (.t 57))⟩, ⟨some 59, some (54, true), (.take 0)⟩, ⟨some 60, some (54, true), (.take 6)⟩, ⟨some 61, some (54, true), (.idx 3 (.t 59) (.t 60))⟩, ⟨some 62, some (54, true), (.fptr 0 (.t 61))⟩, ⟨some 63, some (54, true), (.load false 1 (.t 62))⟩, ⟨some 64, some (54, true), (.bin .lss (.t 58) (.t 63))⟩, ⟨some 65, none, (.pick (.t 54) (.t 64) (.c (.bool false)))⟩])
 (.cond (.t 65)
 .skip
 (.exit 4)))
 (.block 5
 (.reg false [0, 1, 5, 6, 10] [
 ⟨some 66, none, (.mov (.t 10))⟩, ⟨some 67, none, (.bin .add (.t 66) (.c (.int .i64 1)))⟩, ⟨some 10, none, (.mov (.t 67))⟩])))))
 (.seq
 (.reg false [0, 1, 5, 6, 10, 11] [
 ⟨some 11, none, (.mov (.c (.sl .full [])))⟩])
 (.seq
 (.reg false [0, 1, 5, 6, 10, 11] [
 ⟨some 68, none, (.mov (.t 11))⟩, ⟨some 69, none, (.mov (.t 5))⟩, ⟨some 70, none, (.mov (.t 10))⟩, ⟨some 71, none, (.slc 1 (.t 69) none (some (.t 70)) none)⟩, ⟨some 72, none, (.append 1 (.t 68) (.t 71))⟩, ⟨some 11, none, (.mov (.t 72))⟩])
 (.seq
 (.reg false [0, 1, 5, 6, 10, 11] [
 ⟨some 73, none, (.mov (.t 11))⟩, ⟨some 74, none, (.mov (.t 0))⟩, ⟨some 75, none, (.mov (.t 6))⟩, ⟨some 76, none, (.idx 3 (.t 74) (.t 75))⟩, ⟨some 77, none, (.fptr 0 (.t 76))⟩, ⟨some 78, none, (.load false 1 (.t 77))⟩, ⟨some 79, none, (.bslice 1 [(.t 78)])⟩, ⟨some 80, none, (.append 1 (.t 73) (.t 79))⟩, ⟨some 11, none, (.mov (.t 80))⟩])
 (.reg false [0, 1, 5, 6] [
 ⟨some 81, none, (.mov (.t 11))⟩, ⟨some 82, none, (.mov (.t 5))⟩, ⟨some 83, none, (.mov (.t 10))⟩, ⟨some 84, none, (.slc 1 (.t 82) (some (.t 83)) none none)⟩, ⟨some 85, none, (.append 1 (.t 81) (.t 84))⟩, ⟨some 5, none, (.mov (.t 85))⟩])))))))))))
 (.reg false [0, 1, 5, 6] [
 ⟨some 16, none, (.mov (.t 6))⟩, ⟨some 17, none, (.bin .add (.t 16) (.c (.int .i64 1)))⟩, ⟨some 6, none, (.mov (.t 17))⟩]))))))
 (.seq
 (.reg false [4] [
 ⟨some 86, none, (.mov (.t 5))⟩, ⟨some 4, none, (.mov (.t 86))⟩])
 .ret))))
theorem op_constraintref22_Affected {vals : List AV} {bs : List Box} {Q : AV → List Box → Prop} (hn : vals.length ≤ 87) (h : (⟨params 0 vals, bs, bs.length⟩ : St).fo true fun s => rc_constraintref22_Affected.gp Try.prog true s (retP [.slot 4] Q)) : AM.Sem Try.prog 31 vals bs Q :=
  Sem.nrm (Sem.of (fn := Try.f31) (keeps := [(0, [0, 1]), (1, [0, 1, 5]), (2, [0, 1, 5, 6]), (3, [0, 1, 5, 6, 15]), (5, [0, 1, 5, 6, 7]), (6, [0, 1, 5, 6, 7, 8]), (7, [0, 1, 5, 6, 7, 8, 9]), (8, [0, 1, 5, 6, 7, 8, 9, 27]), (10, [0, 1, 5, 6, 7, 8, 9]), (9, [0, 1, 5, 6, 7, 8, 9]), (11, [0, 1, 5, 6, 49]), (12, [0, 1, 5, 6, 10]), (13, [0, 1, 5, 6, 10, 65]), (14, [0, 1, 5, 6, 10]), (15, [0, 1, 5, 6, 10, 11]), (16, [0, 1, 5, 6, 10, 11]), (17, [0, 1, 5, 6, 10, 11]), (18, [0, 1, 5, 6]), (4, [0, 1, 5, 6]), (19, [4])]) (solo := []) Try.func31 rfl (by kernel_rfl) (by kernel_rfl) (by kernel_rfl) hn (run_gp h))

def rc_constraintref22_in : RC :=
 (.seq
 (.reg false [0, 1] [
 ⟨some 4, none, (.mov (.c (.bool false)))⟩])
 (.seq
 (.seq
 (.reg false [0, 1, 5] [
 ⟨some 5, none, (.mov (.c (.int .i64 0)))⟩])
 (.block 0
 (.loop
 (.seq
 (.seq
 (.reg false [0, 1, 5, 9] [
 ⟨some 6, none, (.mov (.t 5))⟩, ⟨some 7, none, (.mov (.t 0))⟩, ⟨some 8, none, (.len false (.t 7))⟩, ⟨some 9, none, (.bin .lss (.t 6) (.t 8))⟩])
 (.cond (.t 9)
 .skip
 (.exit 0)))
 (.seq
 (.block 1
 (.seq
 (.reg false [0, 1, 5, 17] [
 ⟨some 12, none, (.mov (.t 0))⟩, ⟨some 13, none, (.mov (.t 5))⟩, ⟨some 14, none, (.idx 1 (.t 12) (.t 13))⟩, ⟨some 15, none, (.load false 1 (.t 14))⟩, ⟨some 16, none, (.mov (.t 1))⟩, ⟨some 17, none, (.bin .eql (.t 15) (.t 16))⟩])
 (.cond (.t 17)
 (.seq
 (.reg false [4] [
 ⟨some 4, none, (.mov (.c (.bool true)))⟩])
 .ret)
 .skip)))
 (.reg false [0, 1, 5] [
 ⟨some 10, none, (.mov (.t 5))⟩, ⟨some 11, none, (.bin .add (.t 10) (.c (.int .i64 1)))⟩, ⟨some 5, none, (.mov (.t 11))⟩]))))))
 (.seq
 (.reg false [4] [
 ⟨some 4, none, (.mov (.c (.bool false)))⟩])
 .ret)))
theorem op_constraintref22_in {vals : List AV} {bs : List Box} {Q : AV → List Box → Prop} (hn : vals.length ≤ 18) (h : (⟨params 0 vals, bs, bs.length⟩ : St).fo true fun s => rc_constraintref22_in.gp Try.prog true s (retP [.slot 4] Q)) : AM.Sem Try.prog 77 vals bs Q :=
  Sem.nrm (Sem.of (fn := Try.f77) (keeps := [(0, [0, 1]), (1, [0, 1, 5]), (2, [0, 1, 5, 9]), (4, [0, 1, 5, 17]), (5, [4]), (3, [0, 1, 5]), (6, [4])]) (solo := []) Try.func77 rfl (by kernel_rfl) (by kernel_rfl) (by kernel_rfl) hn (run_gp h))

def rc_constraintref22_Frames : RC :=
 (.seq
 (.reg false [0] [
 ⟨some 2, none, (.mov (.c (.sl .full [])))⟩])
 (.seq
 (.reg false [0, 3] [
 ⟨some 3, none, (.mov (.c (.sl .full [])))⟩])
 (.seq
 (.seq
 (.reg false [0, 3, 4] [
 ⟨some 5, none, (.mov (.t 0))⟩, ⟨some 6, none, (.len false (.t 5))⟩, ⟨some 7, none, (.bin .sub (.t 6) (.c (.int .i64 1)))⟩, ⟨some 4, none, (.mov (.t 7))⟩])
 (.block 0
 (.loop
 (.seq
 (.seq
 (.reg false [0, 3, 4, 9] [
 ⟨some 8, none, (.mov (.t 4))⟩, ⟨some 9, none, (.bin .geq (.t 8) (.c (.int .i64 0)))⟩])
 (.cond (.t 9)
 .skip
 (.exit 0)))
 (.seq
 (.block 1
 (.reg false [0, 3, 4] [
 ⟨some 12, none, (.mov (.t 3))⟩, ⟨some 13, none, (.mov (.t 0))⟩, ⟨some 14, none, (.mov (.t 4))⟩, ⟨some 15, none, (.idx 1 (.t 13) (.t 14))⟩, ⟨some 16, none, (.load false 1 (.t 15))⟩, ⟨some 17, none, (.build [(.int .i64 0), (.str ⟨⟨[]⟩⟩), (.sl .full []), (.int .i64 0), (.int .i64 0)] [(3, 1, (.t 16)), (4, 1, (.c (.int .i64 (-1))))])⟩, ⟨some 18, none, (.bslice 5 [(.t 17)])⟩, ⟨some 19, none, (.append 5 (.t 12) (.t 18))⟩, ⟨some 3, none, (.mov (.t 19))⟩]))
 (.reg false [0, 3, 4] [
 ⟨some 10, none, (.mov (.t 4))⟩, ⟨some 11, none, (.bin .sub (.t 10) (.c (.int .i64 1)))⟩, ⟨some 4, none, (.mov (.t 11))⟩]))))))
 (.seq
 (.reg false [2] [
 ⟨some 20, none, (.mov (.t 3))⟩, ⟨some 2, none, (.mov (.t 20))⟩])
 .ret))))
theorem op_constraintref22_Frames {vals : List AV} {bs : List Box} {Q : AV → List Box → Prop} (hn : vals.length ≤ 21) (h : (⟨params 0 vals, bs, bs.length⟩ : St).fo true fun s => rc_constraintref22_Frames.gp Try.prog true s (retP [.slot 2] Q)) : AM.Sem Try.prog 37 vals bs Q :=
  Sem.nrm (Sem.of (fn := Try.f37) (keeps := [(0, [0]), (1, [0, 3]), (2, [0, 3, 4]), (3, [0, 3, 4, 9]), (5, [0, 3, 4]), (4, [0, 3, 4]), (6, [2])]) (solo := []) Try.func37 rfl (by kernel_rfl) (by kernel_rfl) (by kernel_rfl) hn (run_gp h))

def rc_constraintref22_Push : RC :=
 (.seq
 (.reg false [0, 1, 2] [
 ⟨some 6, none, (.mov (.c (.sl .full [])))⟩, ⟨some 7, none, (.mov (.c (.int .i64 0)))⟩])
 (.seq
 (.reg false [0, 1, 2, 8] [
 ⟨some 8, none, (.mov (.c (.sl .full [])))⟩])
 (.seq
 (.reg false [1, 2, 8] [
 ⟨some 9, none, (.mov (.t 8))⟩, ⟨some 10, none, (.mov (.t 0))⟩, ⟨some 11, none, (.append 5 (.t 9) (.t 10))⟩, ⟨some 8, none, (.mov (.t 11))⟩])
 (.seq
 (.reg false [8] [
 ⟨some 12, none, (.mov (.t 8))⟩, ⟨some 13, none, (.mov (.t 1))⟩, ⟨some 14, none, (.mov (.t 2))⟩, ⟨some 15, none, (.call (.c (.fn (.func 31) [] [])) [(.t 13), (.t 14)])⟩, ⟨some 16, none, (.call (.c (.fn (.func 37) [] [])) [(.t 15)])⟩, ⟨some 17, none, (.append 5 (.t 12) (.t 16))⟩, ⟨some 8, none, (.mov (.t 17))⟩])
 (.seq
 (.seq
 (.reg false [8, 20] [
 ⟨some 18, none, (.mov (.t 8))⟩, ⟨some 19, none, (.len false (.t 18))⟩, ⟨some 20, none, (.bin .gtr (.t 19) (.c (.int .i64 1000)))⟩])
 (.cond (.t 20)
 (.seq
 (.reg false [6, 7] [
 ⟨some 6, none, (.mov (.c (.sl .full [])))⟩, ⟨some 7, none, (.mov (.c (.int .i64 6)))⟩])
 .ret)
 .skip))
 (.seq
 (.reg false [6, 7] [
 ⟨some 21, none, (.mov (.t 8))⟩, ⟨some 6, none, (.mov (.t 21))⟩, ⟨some 7, none, (.mov (.c (.int .i64 0)))⟩])
 .ret))))))
theorem op_constraintref22_Push {vals : List AV} {bs : List Box} {Q : AV → List Box → Prop} (hn : vals.length ≤ 22) (h : (⟨params 0 vals, bs, bs.length⟩ : St).fo true fun s => rc_constraintref22_Push.gp Try.prog true s (retP [.slot 6, .slot 7] Q)) : AM.Sem Try.prog 34 vals bs Q :=
  Sem.nrm (Sem.of (fn := Try.f34) (keeps := [(0, [0, 1, 2]), (1, [0, 1, 2, 8]), (2, [1, 2, 8]), (3, [8]), (4, [8, 20]), (5, [6, 7]), (6, [6, 7])]) (solo := []) Try.func34 rfl (by kernel_rfl) (by kernel_rfl) (by kernel_rfl) hn (run_gp h))

def rc_constraintlaw22_awake : RC :=
 (.seq
 (.reg false [] [
 ⟨some 0, none, (.mov (.c (.bool false)))⟩])
 (.seq
 (.reg false [1] [
 ⟨some 5, none, (.build [(.int .i64 0), (.int .i64 0), (.str ⟨⟨[]⟩⟩), (.sl .full [])] [(0, 1, (.c (.int .i64 1)))])⟩, ⟨some 1, none, (.box (.c (.agg [(.int .i64 0), (.int .i64 0), (.str ⟨⟨[]⟩⟩), (.sl .full [])])))⟩, ⟨none, none, (.store 4 (.t 1) (.t 5))⟩])
 (.seq
 (.reg false [2] [
 ⟨some 6, none, (.load true 4 (.t 1))⟩, ⟨some 7, none, (.bslice 4 [(.t 6)])⟩, ⟨some 8, none, (.build [(.str ⟨⟨[]⟩⟩), (.sl .full [])] [(0, 1, (.c (.str ⟨⟨[112]⟩⟩))), (1, 1, (.t 7))])⟩, ⟨some 9, none, (.build [(.int .i64 0), (.str ⟨⟨[]⟩⟩), (.sl .full [])] [(0, 1, (.c (.int .i64 1))), (1, 2, (.t 8))])⟩, ⟨some 10, none, (.build [(.str ⟨⟨[]⟩⟩), (.sl .full [])] [(0, 1, (.c (.str ⟨⟨[113]⟩⟩)))])⟩, ⟨some 11, none, (.build [(.int .i64 0), (.str ⟨⟨[]⟩⟩), (.sl .full [])] [(0, 1, (.c (.int .i64 2))), (1, 2, (.t 10))])⟩, ⟨some 12, none, (.load true 4 (.t 1))⟩, ⟨some 13, none, (.bslice 4 [(.t 12)])⟩, ⟨some 14, none, (.build [(.int .i64 0), (.int .i64 0), (.str ⟨⟨[]⟩⟩), (.sl .full [])] [(0, 1, (.c (.int .i64 2))), (2, 1, (.c (.str ⟨⟨[102]⟩⟩))), (3, 1, (.t 13))])⟩, ⟨some 15, none, (.bslice 4 [(.t 14)])⟩, ⟨some 16, none, (.build [(.str ⟨⟨[]⟩⟩), (.sl .full [])] [(0, 1, (.c (.str ⟨⟨[112]⟩⟩))), (1, 1, (.t 15))])⟩, ⟨some 17, none, (.build [(.int .i64 0), (.str ⟨⟨[]⟩⟩), (.sl .full [])] [(0, 1, (.c (.int .i64 3))), (1, 2, (.t 16))])⟩, ⟨some 18, none, (.bslice 3 [(.t 9), (.t 11), (.t 17)])⟩, ⟨some 2, none, (.mov (.t 18))⟩])
 (.seq
 (.reg false [2, 3, 4] [
 ⟨some 20, none, (.build [(.int .i64 0), (.str ⟨⟨[]⟩⟩), (.sl .full []), (.int .i64 0), (.int .i64 0)] [(3, 1, (.c (.int .i64 9)))])⟩, ⟨some 21, none, (.bslice 5 [(.t 20)])⟩, ⟨some 22, none, (.mov (.t 2))⟩, ⟨some 23, none, (.bslice 1 [(.c (.int .i64 0))])⟩, ⟨some 24, none, (.call (.c (.fn (.func 33) [] [])) [(.t 21), (.t 22), (.t 23)])⟩, ⟨some 19, none, (.mov (.t 24))⟩, ⟨some 25, none, (.ext 0 (.t 19))⟩, ⟨some 26, none, (.ext 1 (.t 19))⟩, ⟨some 3, none, (.mov (.t 25))⟩, ⟨some 4, none, (.mov (.t 26))⟩])
 (.seq
 (.reg false [0] [
 ⟨some 27, none, (.mov (.t 2))⟩, ⟨some 28, none, (.bslice 1 [(.c (.int .i64 0))])⟩, ⟨some 29, none, (.call (.c (.fn (.func 30) [] [])) [(.t 27), (.t 28)])⟩, ⟨some 30, none, (.bslice 1 [(.c (.int .i64 1)), (.c (.int .i64 3))])⟩, ⟨some 31, none, (.call (.c (.fn (.func 29) [] [])) [(.t 29), (.t 30)])⟩, ⟨some 32, none, (.mov (.t 31))⟩, ⟨some 33, some (32, true), (.mov (.t 2))⟩, ⟨some 34, some (32, true), (.bslice 1 [(.c (.int .i64 1))])⟩, ⟨some 35, some (32, true), (.call (.c (.fn (.func 30) [] [])) [(.t 33), (.t 34)])⟩, ⟨some 36, some (32, true), (.len false (.t 35))⟩, ⟨some 37, some (32, true), (.bin .eql (.t 36) (.c (.int .i64 0)))⟩, ⟨some 38, none, (.pick (.t 32) (.t 37) (.c (.bool false)))⟩, ⟨some 39, none, (.mov (.t 38))⟩, ⟨some 40, some (39, true), (.mov (.t 3))⟩, ⟨some 41, some (39, true), (.build [(.int .i64 0), (.str ⟨⟨[]⟩⟩), (.sl .full []), (.int .i64 0), (.int .i64 0)] [(3, 1, (.c (.int .i64 9)))])⟩, ⟨some 42, some (39, true), (.build [(.int .i64 0), (.str ⟨⟨[]⟩⟩), (.sl .full []), (.int .i64 0), (.int .i64 0)] [(3, 1, (.c (.int .i64 3))), (4, 1, (.c (.int .i64 (-1))))])⟩, ⟨some 43, some (39, true), (.build [(.int .i64 0), (.str ⟨⟨[]⟩⟩), (.sl .full []), (.int .i64 0), (.int .i64 0)] [(3, 1, (.c (.int .i64 1))), (4, 1, (.c (.int .i64 (-1))))])⟩, ⟨some 44, some (39, true), (.bslice 5 [(.t 41), (.t 42), (.t 43)])⟩, ⟨some 45, some (39, true), (.call (.c (.fn (.func 35) [] [])) [(.t 40), (.t 44)])⟩, ⟨some 46, none, (.pick (.t 39) (.t 45) (.c (.bool false)))⟩, ⟨some 47, none, (.mov (.t 46))⟩, ⟨some 48, some (47, true), (.mov (.t 4))⟩, ⟨some 49, some (47, true), (.bin .eql (.t 48) (.c (.int .i64 0)))⟩, ⟨some 50, none, (.pick (.t 47) (.t 49) (.c (.bool false)))⟩, ⟨some 0, none, (.mov (.t 50))⟩])
 .ret)))))
theorem op_constraintlaw22_awake {vals : List AV} {bs : List Box} {Q : AV → List Box → Prop} (hn : vals.length ≤ 51) (h : (⟨params 0 vals, bs, bs.length⟩ : St).fo true fun s => rc_constraintlaw22_awake.gp Try.prog true s (retP [.slot 0] Q)) : AM.Sem Try.prog 28 vals bs Q :=
  Sem.nrm (Sem.of (fn := Try.f28) (keeps := [(0, []), (1, [1]), (2, [2]), (3, [2, 3, 4]), (4, [0])]) (solo := []) Try.func28 rfl (by kernel_rfl) (by kernel_rfl) (by kernel_rfl) hn (run_gp h))

def rc_constraintlaw22_few : RC :=
 (.seq
 (.reg false [0] [
 ⟨some 2, none, (.mov (.c (.bool false)))⟩])
 (.seq
 (.seq
 (.reg false [0, 7] [
 ⟨some 5, none, (.mov (.t 0))⟩, ⟨some 6, none, (.len false (.t 5))⟩, ⟨some 7, none, (.bin .gtr (.t 6) (.c (.int .i64 1200)))⟩])
 (.cond (.t 7)
 (.seq
 (.reg false [2] [
 ⟨some 2, none, (.mov (.c (.bool false)))⟩])
 .ret)
 .skip))
 (.seq
 (.seq
 (.reg false [0, 9, 10] [
 ⟨some 8, none, (.mov (.t 0))⟩, ⟨some 9, none, (.len false (.t 8))⟩, ⟨some 10, none, (.mov (.c (.int .i64 0)))⟩])
 (.block 0
 (.loop
 (.seq
 (.reg false [0, 9, 10, 11] [
 ⟨some 11, none, (.bin .lss (.t 10) (.t 9))⟩])
 (.seq
 (.cond (.t 11)
 .skip
 (.exit 0))
 (.seq
 (.block 1
 (.seq
 (.reg false [0, 3, 9, 10] [
 ⟨some 12, none, (.mov (.t 10))⟩, ⟨some 3, none, (.mov (.t 12))⟩])
 (.seq
 (.seq
 (.reg false [0, 3, 9, 10, 20] [
 ⟨some 13, none, (.mov (.t 0))⟩, ⟨some 14, none, (.mov (.t 3))⟩, ⟨some 15, none, (.idx 5 (.t 13) (.t 14))⟩, ⟨some 16, none, (.fptr 0 (.t 15))⟩, ⟨some 17, none, (.fptr 2 (.t 16))⟩, ⟨some 18, none, (.load false 1 (.t 17))⟩, ⟨some 19, none, (.len false (.t 18))⟩, ⟨some 20, none, (.bin .gtr (.t 19) (.c (.int .i64 10)))⟩])
 (.cond (.t 20)
 (.seq
 (.reg false [2] [
 ⟨some 2, none, (.mov (.c (.bool false)))⟩])
 .ret)
 .skip))
 (.seq
 (.reg false [0, 3, 9, 10, 27, 28] [
 ⟨some 21, none, (.mov (.t 0))⟩, ⟨some 22, none, (.mov (.t 3))⟩, ⟨some 23, none, (.idx 5 (.t 21) (.t 22))⟩, ⟨some 24, none, (.fptr 0 (.t 23))⟩, ⟨some 25, none, (.fptr 2 (.t 24))⟩, ⟨some 26, none, (.load false 1 (.t 25))⟩, ⟨some 27, none, (.len false (.t 26))⟩, ⟨some 28, none, (.mov (.c (.int .i64 0)))⟩])
 (.block 2
 (.loop
 (.seq
 (.reg false [0, 3, 9, 10, 27, 28, 29] [
 ⟨some 29, none, (.bin .lss (.t 28) (.t 27))⟩])
 (.seq
 (.cond (.t 29)
 .skip
 (.exit 2))
 (.seq
 (.block 3
 (.seq
 (.reg false [0, 3, 4, 9, 10, 27, 28] [
 ⟨some 30, none, (.mov (.t 28))⟩, ⟨some 4, none, (.mov (.t 30))⟩])
 (.seq
 (.reg false [0, 3, 9, 10, 27, 28, 41] [
 ⟨some 31, none, (.mov (.t 0))⟩, ⟨some 32, none, (.mov (.t 3))⟩, ⟨some 33, none, (.idx 5 (.t 31) (.t 32))⟩, ⟨some 34, none, (.fptr 0 (.t 33))⟩, ⟨some 35, none, (.fptr 2 (.t 34))⟩, ⟨some 36, none, (.load false 1 (.t 35))⟩, ⟨some 37, none, (.mov (.t 4))⟩, ⟨some 38, none, (.idx 4 (.t 36) (.t 37))⟩, ⟨some 39, none, (.load true 4 (.t 38))⟩, ⟨some 40, none, (.call (.c (.fn (.func 78) [] [])) [(.t 39)])⟩, ⟨some 41, none, (.un .not (.t 40))⟩])
 (.cond (.t 41)
 (.seq
 (.reg false [2] [
 ⟨some 2, none, (.mov (.c (.bool false)))⟩])
 .ret)
 .skip))))
 (.reg false [0, 3, 9, 10, 27, 28] [
 ⟨some 42, none, (.bin .add (.t 28) (.c (.int .i64 1)))⟩, ⟨some 28, none, (.mov (.t 42))⟩]))))))))))
 (.reg false [0, 9, 10] [
 ⟨some 43, none, (.bin .add (.t 10) (.c (.int .i64 1)))⟩, ⟨some 10, none, (.mov (.t 43))⟩])))))))
 (.seq
 (.reg false [2] [
 ⟨some 2, none, (.mov (.c (.bool true)))⟩])
 .ret))))
theorem op_constraintlaw22_few {vals : List AV} {bs : List Box} {Q : AV → List Box → Prop} (hn : vals.length ≤ 44) (h : (⟨params 0 vals, bs, bs.length⟩ : St).fo true fun s => rc_constraintlaw22_few.gp Try.prog true s (retP [.slot 2] Q)) : AM.Sem Try.prog 32 vals bs Q :=
  Sem.nrm (Sem.of (fn := Try.f32) (keeps := [(0, [0]), (1, [0, 7]), (2, [2]), (3, [0, 9, 10]), (4, [0, 9, 10, 11]), (5, [0, 3, 9, 10]), (6, [0, 3, 9, 10, 20]), (7, [2]), (8, [0, 3, 9, 10, 27, 28]), (9, [0, 3, 9, 10, 27, 28, 29]), (10, [0, 3, 4, 9, 10, 27, 28]), (11, [0, 3, 9, 10, 27, 28, 41]), (12, [2]), (13, [0, 3, 9, 10, 27, 28]), (14, [0, 9, 10]), (15, [2])]) (solo := []) Try.func32 rfl (by kernel_rfl) (by kernel_rfl) (by kernel_rfl) hn (run_gp h))

def rc_constraintlaw22_frames : RC :=
 (.seq
 (.reg false [0, 1] [
 ⟨some 4, none, (.mov (.c (.bool false)))⟩])
 (.seq
 (.seq
 (.reg false [0, 1, 10] [
 ⟨some 6, none, (.mov (.t 0))⟩, ⟨some 7, none, (.len false (.t 6))⟩, ⟨some 8, none, (.mov (.t 1))⟩, ⟨some 9, none, (.len false (.t 8))⟩, ⟨some 10, none, (.bin .neq (.t 7) (.t 9))⟩])
 (.cond (.t 10)
 (.seq
 (.reg false [4] [
 ⟨some 4, none, (.mov (.c (.bool false)))⟩])
 .ret)
 .skip))
 (.seq
 (.seq
 (.reg false [0, 1, 12, 13] [
 ⟨some 11, none, (.mov (.t 0))⟩, ⟨some 12, none, (.len false (.t 11))⟩, ⟨some 13, none, (.mov (.c (.int .i64 0)))⟩])
 (.block 0
 (.loop
 (.seq
 (.reg false [0, 1, 12, 13, 14] [
 ⟨some 14, none, (.bin .lss (.t 13) (.t 12))⟩])
 (.seq
 (.cond (.t 14)
 .skip
 (.exit 0))
 (.seq
 (.block 1
 (.seq
 (.reg false [0, 1, 5, 12, 13] [
 ⟨some 15, none, (.mov (.t 13))⟩, ⟨some 5, none, (.mov (.t 15))⟩])
 (.seq
 (.reg true [0, 1, 12, 13, 53] [
 ⟨some 16, none, (.mov (.t 0))⟩, ⟨some 17, none, (.mov (.t 5))⟩, ⟨some 18, none, (.idx 5 (.t 16) (.t 17))⟩, ⟨some 19, none, (.fptr 3 (.t 18))⟩, ⟨some 20, none, (.load false 1 (.t 19))⟩, ⟨some 21, none, (.mov (.t 1))⟩, ⟨some 22, none, (.mov (.t 5))⟩, ⟨some 23, none, (.idx 5 (.t 21) (.t 22))⟩, ⟨some 24, none, (.fptr 3 (.t 23))⟩, ⟨some 25, none, (.load false 1 (.t 24))⟩, ⟨some 26, none, (.bin .neq (.t 20) (.t 25))⟩, ⟨some 27, none, (.mov (.t 26))⟩, ⟨some 28, some (27, false), (.mov (.t 0))⟩, ⟨some 29, some (27, false), (.mov (.t 5))⟩, ⟨some 30, some (27, false), (.idx 5 (.t 28) (.t 29))⟩, ⟨some 31, some (27, false), (.fptr 4 (.t 30))⟩, ⟨some 32, some (27, false), (.load false 1 (.t 31))⟩, ⟨some 33, some (27, false), (.mov (.t 1))⟩, ⟨some 34, some (27, false), (.mov (.t 5))⟩, ⟨some 35, some (27, false), (.idx 5 (.t 33) (.t 34))⟩, ⟨some 36, some (27, false), (.fptr 4 (.t 35))⟩, ⟨some 37, some (27, false), (.load false 1 (.t 36))⟩, ⟨some 38, some (27, false), (.bin .neq (.t 32) (.t 37))⟩, ⟨some 39, none, (.pick (.t 27) (.c (.bool true)) (.t 38))⟩, ⟨some 40, none, (.mov (.t 39))⟩, ⟨some 41, some (40, false), (.mov (.t 0))⟩, ⟨some 42, some (40, false), (.mov (.t 5))⟩, ⟨some 43, some (40, false), (.idx 5 (.t 41) (.t 42))⟩, ⟨some 44, some (40, false), (.fptr 0 (.t 43))⟩, ⟨some 45, some (40, false), (.load true 3 (.t 44))⟩, ⟨some 46, some (40, false), (.mov (.t 1))⟩, ⟨some 47, some (40, false), (.mov (.t 5))⟩, ⟨some 48, some (40, false), (.idx 5 (.t 46) (.t 47))⟩, ⟨some 49, some (40, false), (.fptr 0 (.t 48))⟩, ⟨some 50, some (40, false), (.load true 3 (.t 49))⟩, ⟨some 51, some (40, false), (.call (.c (.fn (.func 79) [] [])) [(.t 45), (.t 50)])⟩, ⟨some 52, some (40, false), (.un .not (.t 51))⟩, ⟨some 53, none, (.pick (.t 40) (.c (.bool true)) (.t 52))⟩])
 (.cond (.t 53)
 (.seq
 (.reg false [4] [
 ⟨some 4, none, (.mov (.c (.bool false)))⟩])
 .ret)
 .skip))))
 (.reg false [0, 1, 12, 13] [
 ⟨some 54, none, (.bin .add (.t 13) (.c (.int .i64 1)))⟩, ⟨some 13, none, (.mov (.t 54))⟩])))))))
 (.seq
 (.reg false [4] [
 ⟨some 4, none, (.mov (.c (.bool true)))⟩])
 .ret))))
theorem op_constraintlaw22_frames {vals : List AV} {bs : List Box} {Q : AV → List Box → Prop} (hn : vals.length ≤ 55) (h : (⟨params 0 vals, bs, bs.length⟩ : St).fo true fun s => rc_constraintlaw22_frames.gp Try.prog true s (retP [.slot 4] Q)) : AM.Sem Try.prog 35 vals bs Q :=
  Sem.nrm (Sem.of (fn := Try.f35) (keeps := [(0, [0, 1]), (1, [0, 1, 10]), (2, [4]), (3, [0, 1, 12, 13]), (4, [0, 1, 12, 13, 14]), (5, [0, 1, 5, 12, 13]), (6, [0, 1, 12, 13, 53]), (7, [4]), (8, [0, 1, 12, 13]), (9, [4])]) (solo := []) Try.func35 rfl (by kernel_rfl) (by kernel_rfl) (by kernel_rfl) hn (run_gp h))

def rc_constraintlaw22_in : RC :=
 (.seq
 (.reg false [0, 1] [
 ⟨some 4, none, (.mov (.c (.bool false)))⟩])
 (.seq
 (.seq
 (.reg false [0, 1, 7, 8] [
 ⟨some 6, none, (.mov (.t 0))⟩, ⟨some 7, none, (.len false (.t 6))⟩, ⟨some 8, none, (.mov (.c (.int .i64 0)))⟩])
 (.block 0
 (.loop
 (.seq
 (.reg false [0, 1, 7, 8, 9] [
 ⟨some 9, none, (.bin .lss (.t 8) (.t 7))⟩])
 (.seq
 (.cond (.t 9)
 .skip
 (.exit 0))
 (.seq
 (.block 1
 (.seq
 (.reg false [0, 1, 5, 7, 8] [
 ⟨some 10, none, (.mov (.t 8))⟩, ⟨some 5, none, (.mov (.t 10))⟩])
 (.seq
 (.reg false [0, 1, 7, 8, 16] [
 ⟨some 11, none, (.mov (.t 0))⟩, ⟨some 12, none, (.mov (.t 5))⟩, ⟨some 13, none, (.idx 1 (.t 11) (.t 12))⟩, ⟨some 14, none, (.load false 1 (.t 13))⟩, ⟨some 15, none, (.mov (.t 1))⟩, ⟨some 16, none, (.bin .eql (.t 14) (.t 15))⟩])
 (.cond (.t 16)
 (.seq
 (.reg false [4] [
 ⟨some 4, none, (.mov (.c (.bool true)))⟩])
 .ret)
 .skip))))
 (.reg false [0, 1, 7, 8] [
 ⟨some 17, none, (.bin .add (.t 8) (.c (.int .i64 1)))⟩, ⟨some 8, none, (.mov (.t 17))⟩])))))))
 (.seq
 (.reg false [4] [
 ⟨some 4, none, (.mov (.c (.bool false)))⟩])
 .ret)))
theorem op_constraintlaw22_in {vals : List AV} {bs : List Box} {Q : AV → List Box → Prop} (hn : vals.length ≤ 18) (h : (⟨params 0 vals, bs, bs.length⟩ : St).fo true fun s => rc_constraintlaw22_in.gp Try.prog true s (retP [.slot 4] Q)) : AM.Sem Try.prog 38 vals bs Q :=
  Sem.nrm (Sem.of (fn := Try.f38) (keeps := [(0, [0, 1]), (1, [0, 1, 7, 8]), (2, [0, 1, 7, 8, 9]), (3, [0, 1, 5, 7, 8]), (4, [0, 1, 7, 8, 16]), (5, [4]), (6, [0, 1, 7, 8]), (7, [4])]) (solo := []) Try.func38 rfl (by kernel_rfl) (by kernel_rfl) (by kernel_rfl) hn (run_gp h))

def rc_constraintlaw22_WakeAffects : RC :=
 (.seq
 (.reg false [0, 1] [
 ⟨some 4, none, (.mov (.c (.bool false)))⟩])
 (.seq
 (.seq
 (.reg false [0, 1, 12] [
 ⟨some 5, none, (.mov (.t 0))⟩, ⟨some 6, none, (.call (.c (.fn (.func 27) [] [])) [(.t 5)])⟩, ⟨some 7, none, (.un .not (.t 6))⟩, ⟨some 8, none, (.mov (.t 7))⟩, ⟨some 9, some (8, false), (.mov (.t 1))⟩, ⟨some 10, some (8, false), (.len false (.t 9))⟩, ⟨some 11, some (8, false), (.bin .gtr (.t 10) (.c (.int .i64 100)))⟩, ⟨some 12, none, (.pick (.t 8) (.c (.bool true)) (.t 11))⟩])
 (.cond (.t 12)
 (.seq
 (.reg false [4] [
 ⟨some 13, none, (.call (.c (.fn (.func 28) [] [])) [])⟩, ⟨some 4, none, (.mov (.t 13))⟩])
 .ret)
 .skip))
 (.seq
 (.reg false [4] [
 ⟨some 14, none, (.mov (.t 0))⟩, ⟨some 15, none, (.mov (.t 1))⟩, ⟨some 16, none, (.call (.c (.fn (.func 30) [] [])) [(.t 14), (.t 15)])⟩, ⟨some 17, none, (.mov (.t 0))⟩, ⟨some 18, none, (.mov (.t 1))⟩, ⟨some 19, none, (.call (.c (.fn (.func 31) [] [])) [(.t 17), (.t 18)])⟩, ⟨some 20, none, (.call (.c (.fn (.func 29) [] [])) [(.t 16), (.t 19)])⟩, ⟨some 21, none, (.mov (.t 20))⟩, ⟨some 22, some (21, true), (.call (.c (.fn (.func 28) [] [])) [])⟩, ⟨some 23, none, (.pick (.t 21) (.t 22) (.c (.bool false)))⟩, ⟨some 4, none, (.mov (.t 23))⟩])
 .ret)))
theorem op_constraintlaw22_WakeAffects {vals : List AV} {bs : List Box} {Q : AV → List Box → Prop} (hn : vals.length ≤ 24) (h : (⟨params 0 vals, bs, bs.length⟩ : St).fo true fun s => rc_constraintlaw22_WakeAffects.gp Try.prog true s (retP [.slot 4] Q)) : AM.Sem Try.prog 5 vals bs Q :=
  Sem.nrm (Sem.of (fn := Try.f5) (keeps := [(0, [0, 1]), (1, [0, 1, 12]), (2, [4]), (3, [4])]) (solo := []) Try.func5 rfl (by kernel_rfl) (by kernel_rfl) (by kernel_rfl) hn (run_gp h))

def rc_constraintlaw22_WakePushes : RC :=
 (.seq
 (.reg false [0, 1, 5] [
 ⟨some 5, none, (.box (.t 2))⟩, ⟨some 6, none, (.mov (.c (.bool false)))⟩])
 (.seq
 (.reg true [0, 1, 7, 8] [
 ⟨some 13, none, (.idxA 2 1 (.t 5) (.c (.int .i64 0)))⟩, ⟨some 14, none, (.load false 1 (.t 13))⟩, ⟨some 15, none, (.idxA 2 1 (.t 5) (.c (.int .i64 1)))⟩, ⟨some 16, none, (.load false 1 (.t 15))⟩, ⟨some 7, none, (.take 14)⟩, ⟨some 8, none, (.take 16)⟩])
 (.seq
 (.seq
 (.reg false [0, 1, 7, 8, 34] [
 ⟨some 17, none, (.mov (.t 0))⟩, ⟨some 18, none, (.call (.c (.fn (.func 32) [] [])) [(.t 17)])⟩, ⟨some 19, none, (.un .not (.t 18))⟩, ⟨some 20, none, (.mov (.t 19))⟩, ⟨some 21, some (20, false), (.mov (.t 1))⟩, ⟨some 22, some (20, false), (.call (.c (.fn (.func 27) [] [])) [(.t 21)])⟩, ⟨some 23, some (20, false), (.un .not (.t 22))⟩, ⟨some 24, none, (.pick (.t 20) (.c (.bool true)) (.t 23))⟩, ⟨some 25, none, (.mov (.t 24))⟩, ⟨some 26, some (25, false), (.mov (.t 7))⟩, ⟨some 27, some (25, false), (.len false (.t 26))⟩, ⟨some 28, some (25, false), (.bin .gtr (.t 27) (.c (.int .i64 100)))⟩, ⟨some 29, none, (.pick (.t 25) (.c (.bool true)) (.t 28))⟩, ⟨some 30, none, (.mov (.t 29))⟩, ⟨some 31, some (30, false), (.mov (.t 8))⟩, ⟨some 32, some (30, false), (.len false (.t 31))⟩, ⟨some 33, some (30, false), (.bin .gtr (.t 32) (.c (.int .i64 1200)))⟩, ⟨some 34, none, (.pick (.t 30) (.c (.bool true)) (.t 33))⟩])
 (.cond (.t 34)
 (.seq
 (.reg false [6] [
 ⟨some 35, none, (.call (.c (.fn (.func 28) [] [])) [])⟩, ⟨some 6, none, (.mov (.t 35))⟩])
 .ret)
 .skip))
 (.seq
 (.reg false [0, 1, 7, 8, 9, 10] [
 ⟨some 37, none, (.mov (.t 0))⟩, ⟨some 38, none, (.mov (.t 1))⟩, ⟨some 39, none, (.mov (.t 7))⟩, ⟨some 40, none, (.call (.c (.fn (.func 33) [] [])) [(.t 37), (.t 38), (.t 39)])⟩, ⟨some 36, none, (.mov (.t 40))⟩, ⟨some 41, none, (.ext 0 (.t 36))⟩, ⟨some 42, none, (.ext 1 (.t 36))⟩, ⟨some 9, none, (.mov (.t 41))⟩, ⟨some 10, none, (.mov (.t 42))⟩])
 (.seq
 (.reg false [8, 9, 10, 11, 12] [
 ⟨some 44, none, (.mov (.t 0))⟩, ⟨some 45, none, (.mov (.t 1))⟩, ⟨some 46, none, (.mov (.t 7))⟩, ⟨some 47, none, (.call (.c (.fn (.func 34) [] [])) [(.t 44), (.t 45), (.t 46)])⟩, ⟨some 43, none, (.mov (.t 47))⟩, ⟨some 48, none, (.ext 0 (.t 43))⟩, ⟨some 49, none, (.ext 1 (.t 43))⟩, ⟨some 11, none, (.mov (.t 48))⟩, ⟨some 12, none, (.mov (.t 49))⟩])
 (.seq
 (.reg false [6] [
 ⟨some 50, none, (.mov (.t 9))⟩, ⟨some 51, none, (.mov (.t 11))⟩, ⟨some 52, none, (.call (.c (.fn (.func 35) [] [])) [(.t 50), (.t 51)])⟩, ⟨some 53, none, (.mov (.t 52))⟩, ⟨some 54, some (53, true), (.mov (.t 10))⟩, ⟨some 55, some (53, true), (.mov (.t 12))⟩, ⟨some 56, some (53, true), (.bin .eql (.t 54) (.t 55))⟩, ⟨some 57, none, (.pick (.t 53) (.t 56) (.c (.bool false)))⟩, ⟨some 58, none, (.mov (.t 57))⟩, ⟨some 59, some (58, true), (.mov (.t 8))⟩, ⟨some 60, some (58, true), (.call (.c (.fn (.func 36) [] [])) [(.t 59)])⟩, ⟨some 61, some (58, true), (.mov (.t 8))⟩, ⟨some 62, some (58, true), (.call (.c (.fn (.func 37) [] [])) [(.t 61)])⟩, ⟨some 63, some (58, true), (.call (.c (.fn (.func 35) [] [])) [(.t 60), (.t 62)])⟩, ⟨some 64, none, (.pick (.t 58) (.t 63) (.c (.bool false)))⟩, ⟨some 65, none, (.mov (.t 64))⟩, ⟨some 66, some (65, true), (.call (.c (.fn (.func 28) [] [])) [])⟩, ⟨some 67, none, (.pick (.t 65) (.t 66) (.c (.bool false)))⟩, ⟨some 6, none, (.mov (.t 67))⟩])
 .ret))))))
theorem op_constraintlaw22_WakePushes {vals : List AV} {bs : List Box} {Q : AV → List Box → Prop} (hn : vals.length ≤ 68) (h : (⟨params 0 vals, bs, bs.length⟩ : St).fo true fun s => rc_constraintlaw22_WakePushes.gp Try.prog true s (retP [.slot 6] Q)) : AM.Sem Try.prog 6 vals bs Q :=
  Sem.nrm (Sem.of (fn := Try.f6) (keeps := [(0, [0, 1, 5]), (1, [0, 1, 7, 8]), (2, [0, 1, 7, 8, 34]), (3, [6]), (4, [0, 1, 7, 8, 9, 10]), (5, [8, 9, 10, 11, 12]), (6, [6])]) (solo := []) Try.func6 rfl (by kernel_rfl) (by kernel_rfl) (by kernel_rfl) hn (run_gp h))

def rc_constraintlaw22_WakeTops : RC :=
 (.seq
 (.reg false [0, 1, 2] [
 ⟨some 6, none, (.mov (.c (.bool false)))⟩])
 (.seq
 (.seq
 (.reg false [0, 1, 2, 23] [
 ⟨some 11, none, (.mov (.t 0))⟩, ⟨some 12, none, (.call (.c (.fn (.func 32) [] [])) [(.t 11)])⟩, ⟨some 13, none, (.un .not (.t 12))⟩, ⟨some 14, none, (.mov (.t 13))⟩, ⟨some 15, some (14, false), (.mov (.t 1))⟩, ⟨some 16, some (14, false), (.call (.c (.fn (.func 27) [] [])) [(.t 15)])⟩, ⟨some 17, some (14, false), (.un .not (.t 16))⟩, ⟨some 18, none, (.pick (.t 14) (.c (.bool true)) (.t 17))⟩, ⟨some 19, none, (.mov (.t 18))⟩, ⟨some 20, some (19, false), (.mov (.t 2))⟩, ⟨some 21, some (19, false), (.len false (.t 20))⟩, ⟨some 22, some (19, false), (.bin .gtr (.t 21) (.c (.int .i64 100)))⟩, ⟨some 23, none, (.pick (.t 19) (.c (.bool true)) (.t 22))⟩])
 (.cond (.t 23)
 (.seq
 (.reg false [6] [
 ⟨some 24, none, (.call (.c (.fn (.func 28) [] [])) [])⟩, ⟨some 6, none, (.mov (.t 24))⟩])
 .ret)
 .skip))
 (.seq
 (.reg false [0, 1, 2, 7] [
 ⟨some 25, none, (.mov (.t 1))⟩, ⟨some 26, none, (.mov (.t 2))⟩, ⟨some 27, none, (.call (.c (.fn (.func 30) [] [])) [(.t 25), (.t 26)])⟩, ⟨some 7, none, (.mov (.t 27))⟩])
 (.seq
 (.reg false [0, 7, 8, 9] [
 ⟨some 29, none, (.mov (.t 0))⟩, ⟨some 30, none, (.mov (.t 1))⟩, ⟨some 31, none, (.mov (.t 2))⟩, ⟨some 32, none, (.call (.c (.fn (.func 33) [] [])) [(.t 29), (.t 30), (.t 31)])⟩, ⟨some 28, none, (.mov (.t 32))⟩, ⟨some 33, none, (.ext 0 (.t 28))⟩, ⟨some 34, none, (.ext 1 (.t 28))⟩, ⟨some 8, none, (.mov (.t 33))⟩, ⟨some 9, none, (.mov (.t 34))⟩])
 (.seq
 (.seq
 (.reg false [0, 7, 8, 9, 36] [
 ⟨some 35, none, (.mov (.t 9))⟩, ⟨some 36, none, (.bin .neq (.t 35) (.c (.int .i64 0)))⟩])
 (.cond (.t 36)
 (.seq
 (.reg false [6] [
 ⟨some 37, none, (.mov (.t 9))⟩, ⟨some 38, none, (.bin .eql (.t 37) (.c (.int .i64 6)))⟩, ⟨some 39, none, (.mov (.t 38))⟩, ⟨some 40, some (39, true), (.mov (.t 8))⟩, ⟨some 41, some (39, true), (.len false (.t 40))⟩, ⟨some 42, some (39, true), (.bin .eql (.t 41) (.c (.int .i64 0)))⟩, ⟨some 43, none, (.pick (.t 39) (.t 42) (.c (.bool false)))⟩, ⟨some 44, none, (.mov (.t 43))⟩, ⟨some 45, some (44, true), (.mov (.t 0))⟩, ⟨some 46, some (44, true), (.len false (.t 45))⟩, ⟨some 47, some (44, true), (.mov (.t 7))⟩, ⟨some 48, some (44, true), (.len false (.t 47))⟩, ⟨some 49, some (44, true), (.bin .add (.t 46) (.t 48))⟩, ⟨some 50, some (44, true), (.bin .gtr (.t 49) (.c (.int .i64 1000)))⟩, ⟨some 51, none, (.pick (.t 44) (.t 50) (.c (.bool false)))⟩, ⟨some 52, none, (.mov (.t 51))⟩, ⟨some 53, some (52, true), (.call (.c (.fn (.func 28) [] [])) [])⟩, ⟨some 54, none, (.pick (.t 52) (.t 53) (.c (.bool false)))⟩, ⟨some 6, none, (.mov (.t 54))⟩])
 .ret)
 .skip))
 (.seq
 (.seq
 (.reg false [7, 8, 71] [
 ⟨some 55, none, (.mov (.t 8))⟩, ⟨some 56, none, (.len false (.t 55))⟩, ⟨some 57, none, (.mov (.t 0))⟩, ⟨some 58, none, (.len false (.t 57))⟩, ⟨some 59, none, (.mov (.t 7))⟩, ⟨some 60, none, (.len false (.t 59))⟩, ⟨some 61, none, (.bin .add (.t 58) (.t 60))⟩, ⟨some 62, none, (.bin .neq (.t 56) (.t 61))⟩, ⟨some 63, none, (.mov (.t 62))⟩, ⟨some 64, some (63, false), (.mov (.t 8))⟩, ⟨some 65, some (63, false), (.mov (.t 0))⟩, ⟨some 66, some (63, false), (.len false (.t 65))⟩, ⟨some 67, some (63, false), (.slc 5 (.t 64) none (some (.t 66)) none)⟩, ⟨some 68, some (63, false), (.mov (.t 0))⟩, ⟨some 69, some (63, false), (.call (.c (.fn (.func 35) [] [])) [(.t 67), (.t 68)])⟩, ⟨some 70, some (63, false), (.un .not (.t 69))⟩, ⟨some 71, none, (.pick (.t 63) (.c (.bool true)) (.t 70))⟩])
 (.cond (.t 71)
 (.seq
 (.reg false [6] [
 ⟨some 6, none, (.mov (.c (.bool false)))⟩])
 .ret)
 .skip))
 (.seq
 (.seq
 (.reg false [7, 8, 73, 74] [
 ⟨some 72, none, (.mov (.t 7))⟩, ⟨some 73, none, (.len false (.t 72))⟩, ⟨some 74, none, (.mov (.c (.int .i64 0)))⟩])
 (.block 0
 (.loop
 (.seq
 (.reg false [7, 8, 73, 74, 75] [
 ⟨some 75, none, (.bin .lss (.t 74) (.t 73))⟩])
 (.seq
 (.cond (.t 75)
 .skip
 (.exit 0))
 (.seq
 (.block 1
 (.seq
 (.reg false [7, 8, 10, 73, 74] [
 ⟨some 76, none, (.mov (.t 74))⟩, ⟨some 10, none, (.mov (.t 76))⟩])
 (.seq
 (.reg true [7, 8, 73, 74, 118] [
 ⟨some 77, none, (.mov (.t 8))⟩, ⟨some 78, none, (.mov (.t 8))⟩, ⟨some 79, none, (.len false (.t 78))⟩, ⟨some 80, none, (.bin .sub (.t 79) (.c (.int .i64 1)))⟩, ⟨some 81, none, (.mov (.t 10))⟩, ⟨some 82, none, (.bin .sub (.t 80) (.t 81))⟩, ⟨some 83, none, (.idx 5 (.t 77) (.t 82))⟩, ⟨some 84, none, (.fptr 3 (.t 83))⟩, ⟨some 85, none, (.load false 1 (.t 84))⟩, ⟨some 86, none, (.mov (.t 7))⟩, ⟨some 87, none, (.mov (.t 10))⟩, ⟨some 88, none, (.idx 1 (.t 86) (.t 87))⟩, ⟨some 89, none, (.load false 1 (.t 88))⟩, ⟨some 90, none, (.bin .neq (.t 85) (.t 89))⟩, ⟨some 91, none, (.mov (.t 90))⟩, ⟨some 92, some (91, false), (.mov (.t 8))⟩, ⟨some 93, some (91, false), (.mov (.t 8))⟩, ⟨some 94, some (91, false), (.len false (.t 93))⟩, ⟨some 95, some (91, false), (.bin .sub (.t 94) (.c (.int .i64 1)))⟩, ⟨some 96, some (91, false), (.mov (.t 10))⟩, ⟨some 97, some (91, false), (.bin .sub (.t 95) (.t 96))⟩, ⟨some 98, some (91, false), (.idx 5 (.t 92) (.t 97))⟩, ⟨some 99, some (91, false), (.fptr 4 (.t 98))⟩, ⟨some 100, some (91, false), (.load false 1 (.t 99))⟩, ⟨some 101, some (91, false), (.bin .neq (.t 100) (.c (.int .i64 (-1))))⟩, ⟨some 102, none, (.pick (.t 91) (.c (.bool true)) (.t 101))⟩, ⟨some 103, none, (.mov (.t 102))⟩, ⟨some 104, some (103, false), (.mov (.t 10))⟩, ⟨some 105, some (103, false), (.bin .gtr (.t 104) (.c (.int .i64 0)))⟩, ⟨some 106, some (103, false), (.mov (.t 105))⟩, ⟨some 107, some (106, true), (.mov (.t 7))⟩, ⟨some 108, some (106, true), (.mov (.t 10))⟩, ⟨some 109, some (106, true), (.bin .sub (.t 108) (.c (.int .i64 1)))⟩, ⟨some 110, some (106, true), (.idx 1 (.t 107) (.t 109))⟩, ⟨some 111, some (106, true), (.load false 1 (.t 110))⟩, ⟨some 112, some (106, true), (.mov (.t 7))⟩, ⟨some 113, some (106, true), (.mov (.t 10))⟩, ⟨some 114, some (106, true), (.idx 1 (.t 112) (.t 113))⟩, ⟨some 115, some (106, true), (.load false 1 (.t 114))⟩, ⟨some 116, some (106, true), (.bin .geq (.t 111) (.t 115))⟩, ⟨some 117, some (103, false), (.pick (.t 106) (.t 116) (.c (.bool false)))⟩, ⟨some 118, none, (.pick (.t 103) (.c (.bool true)) (.t 117))⟩])
 (.cond (.t 118)
 (.seq
 (.reg false [6] [
 ⟨some 6, none, (.mov (.c (.bool false)))⟩])
 .ret)
 .skip))))
 (.reg false [7, 8, 73, 74] [
 ⟨some 119, none, (.bin .add (.t 74) (.c (.int .i64 1)))⟩, ⟨some 74, none, (.mov (.t 119))⟩])))))))
 (.seq
 (.reg false [6] [
 ⟨some 120, none, (.call (.c (.fn (.func 28) [] [])) [])⟩, ⟨some 6, none, (.mov (.t 120))⟩])
 .ret))))))))
theorem op_constraintlaw22_WakeTops {vals : List AV} {bs : List Box} {Q : AV → List Box → Prop} (hn : vals.length ≤ 121) (h : (⟨params 0 vals, bs, bs.length⟩ : St).fo true fun s => rc_constraintlaw22_WakeTops.gp Try.prog true s (retP [.slot 6] Q)) : AM.Sem Try.prog 7 vals bs Q :=
  Sem.nrm (Sem.of (fn := Try.f7) (keeps := [(0, [0, 1, 2]), (1, [0, 1, 2, 23]), (2, [6]), (3, [0, 1, 2, 7]), (4, [0, 7, 8, 9]), (5, [0, 7, 8, 9, 36]), (6, [6]), (7, [7, 8, 71]), (8, [6]), (9, [7, 8, 73, 74]), (10, [7, 8, 73, 74, 75]), (11, [7, 8, 10, 73, 74]), (12, [7, 8, 73, 74, 118]), (13, [6]), (14, [7, 8, 73, 74]), (15, [6])]) (solo := []) Try.func7 rfl (by kernel_rfl) (by kernel_rfl) (by kernel_rfl) hn (run_gp h))

def rc_constraintlaw22_WakeLess : RC :=
 (.seq
 (.reg false [0, 1, 2] [
 ⟨some 6, none, (.mov (.c (.bool false)))⟩])
 (.seq
 (.seq
 (.reg false [0, 1, 2, 24] [
 ⟨some 12, none, (.mov (.t 0))⟩, ⟨some 13, none, (.call (.c (.fn (.func 27) [] [])) [(.t 12)])⟩, ⟨some 14, none, (.un .not (.t 13))⟩, ⟨some 15, none, (.mov (.t 14))⟩, ⟨some 16, some (15, false), (.mov (.t 1))⟩, ⟨some 17, some (15, false), (.len false (.t 16))⟩, ⟨some 18, some (15, false), (.bin .gtr (.t 17) (.c (.int .i64 30)))⟩, ⟨some 19, none, (.pick (.t 15) (.c (.bool true)) (.t 18))⟩, ⟨some 20, none, (.mov (.t 19))⟩, ⟨some 21, some (20, false), (.mov (.t 2))⟩, ⟨some 22, some (20, false), (.len false (.t 21))⟩, ⟨some 23, some (20, false), (.bin .gtr (.t 22) (.c (.int .i64 30)))⟩, ⟨some 24, none, (.pick (.t 20) (.c (.bool true)) (.t 23))⟩])
 (.cond (.t 24)
 (.seq
 (.reg false [6] [
 ⟨some 25, none, (.call (.c (.fn (.func 28) [] [])) [])⟩, ⟨some 6, none, (.mov (.t 25))⟩])
 .ret)
 .skip))
 (.seq
 (.reg false [0, 1, 7, 8] [
 ⟨some 26, none, (.mov (.t 0))⟩, ⟨some 27, none, (.mov (.t 1))⟩, ⟨some 28, none, (.call (.c (.fn (.func 30) [] [])) [(.t 26), (.t 27)])⟩, ⟨some 29, none, (.mov (.t 0))⟩, ⟨some 30, none, (.bslice 1 [])⟩, ⟨some 31, none, (.mov (.t 1))⟩, ⟨some 32, none, (.append 1 (.t 30) (.t 31))⟩, ⟨some 33, none, (.mov (.t 2))⟩, ⟨some 34, none, (.append 1 (.t 32) (.t 33))⟩, ⟨some 35, none, (.call (.c (.fn (.func 30) [] [])) [(.t 29), (.t 34)])⟩, ⟨some 7, none, (.mov (.t 28))⟩, ⟨some 8, none, (.mov (.t 35))⟩])
 (.seq
 (.seq
 (.reg false [0, 1, 7, 8, 37, 38] [
 ⟨some 36, none, (.mov (.t 7))⟩, ⟨some 37, none, (.len false (.t 36))⟩, ⟨some 38, none, (.mov (.c (.int .i64 0)))⟩])
 (.block 0
 (.loop
 (.seq
 (.reg false [0, 1, 7, 8, 37, 38, 39] [
 ⟨some 39, none, (.bin .lss (.t 38) (.t 37))⟩])
 (.seq
 (.cond (.t 39)
 .skip
 (.exit 0))
 (.seq
 (.block 1
 (.seq
 (.reg false [0, 1, 7, 8, 9, 37, 38] [
 ⟨some 40, none, (.mov (.t 38))⟩, ⟨some 9, none, (.mov (.t 40))⟩])
 (.seq
 (.seq
 (.reg false [0, 1, 7, 8, 9, 37, 38, 47] [
 ⟨some 41, none, (.mov (.t 8))⟩, ⟨some 42, none, (.mov (.t 7))⟩, ⟨some 43, none, (.mov (.t 9))⟩, ⟨some 44, none, (.idx 1 (.t 42) (.t 43))⟩, ⟨some 45, none, (.load false 1 (.t 44))⟩, ⟨some 46, none, (.call (.c (.fn (.func 38) [] [])) [(.t 41), (.t 45)])⟩, ⟨some 47, none, (.un .not (.t 46))⟩])
 (.cond (.t 47)
 (.seq
 (.reg false [6] [
 ⟨some 6, none, (.mov (.c (.bool false)))⟩])
 .ret)
 .skip))
 (.seq
 (.reg false [0, 1, 7, 8, 9, 10, 37, 38] [
 ⟨some 10, none, (.mov (.c (.bool false)))⟩])
 (.seq
 (.seq
 (.reg false [0, 1, 7, 8, 9, 10, 37, 38, 49, 50] [
 ⟨some 48, none, (.mov (.t 1))⟩, ⟨some 49, none, (.len false (.t 48))⟩, ⟨some 50, none, (.mov (.c (.int .i64 0)))⟩])
 (.block 2
 (.loop
 (.seq
 (.reg false [0, 1, 7, 8, 9, 10, 37, 38, 49, 50, 51] [
 ⟨some 51, none, (.bin .lss (.t 50) (.t 49))⟩])
 (.seq
 (.cond (.t 51)
 .skip
 (.exit 2))
 (.seq
 (.block 3
 (.seq
 (.reg false [0, 1, 7, 8, 9, 10, 11, 37, 38, 49, 50] [
 ⟨some 52, none, (.mov (.t 50))⟩, ⟨some 11, none, (.mov (.t 52))⟩])
 (.reg true [0, 1, 7, 8, 9, 10, 37, 38, 49, 50] [
 ⟨some 53, none, (.mov (.t 10))⟩, ⟨some 54, none, (.mov (.t 53))⟩, ⟨some 55, some (54, false), (.mov (.t 0))⟩, ⟨some 56, some (54, false), (.mov (.t 1))⟩, ⟨some 57, some (54, false), (.mov (.t 11))⟩, ⟨some 58, some (54, false), (.mov (.t 11))⟩, ⟨some 59, some (54, false), (.bin .add (.t 58) (.c (.int .i64 1)))⟩, ⟨some 60, some (54, false), (.slc 1 (.t 56) (some (.t 57)) (some (.t 59)) none)⟩, ⟨some 61, some (54, false), (.call (.c (.fn (.func 30) [] [])) [(.t 55), (.t 60)])⟩, ⟨some 62, some (54, false), (.mov (.t 7))⟩, ⟨some 63, some (54, false), (.mov (.t 9))⟩, ⟨some 64, some (54, false), (.idx 1 (.t 62) (.t 63))⟩, ⟨some 65, some (54, false), (.load false 1 (.t 64))⟩, ⟨some 66, some (54, false), (.call (.c (.fn (.func 38) [] [])) [(.t 61), (.t 65)])⟩, ⟨some 67, none, (.pick (.t 54) (.c (.bool true)) (.t 66))⟩, ⟨some 10, none, (.mov (.t 67))⟩])))
 (.reg false [0, 1, 7, 8, 9, 10, 37, 38, 49, 50] [
 ⟨some 68, none, (.bin .add (.t 50) (.c (.int .i64 1)))⟩, ⟨some 50, none, (.mov (.t 68))⟩])))))))
 (.seq
 (.reg false [0, 1, 7, 8, 10, 37, 38, 74] [
 ⟨some 69, none, (.mov (.t 10))⟩, ⟨some 70, none, (.un .not (.t 69))⟩, ⟨some 71, none, (.mov (.t 70))⟩, ⟨some 72, some (71, false), (.mov (.t 9))⟩, ⟨some 73, some (71, false), (.bin .gtr (.t 72) (.c (.int .i64 20)))⟩, ⟨some 74, none, (.pick (.t 71) (.c (.bool true)) (.t 73))⟩])
 (.cond (.t 74)
 (.seq
 (.reg false [6] [
 ⟨some 75, none, (.mov (.t 10))⟩, ⟨some 76, none, (.mov (.t 75))⟩, ⟨some 77, some (76, true), (.call (.c (.fn (.func 28) [] [])) [])⟩, ⟨some 78, none, (.pick (.t 76) (.t 77) (.c (.bool false)))⟩, ⟨some 6, none, (.mov (.t 78))⟩])
 .ret)
 .skip)))))))
 (.reg false [0, 1, 7, 8, 37, 38] [
 ⟨some 79, none, (.bin .add (.t 38) (.c (.int .i64 1)))⟩, ⟨some 38, none, (.mov (.t 79))⟩])))))))
 (.seq
 (.reg false [6] [
 ⟨some 80, none, (.mov (.t 0))⟩, ⟨some 81, none, (.call (.c (.fn (.func 30) [] [])) [(.t 80), (.c (.sl .full []))])⟩, ⟨some 82, none, (.len false (.t 81))⟩, ⟨some 83, none, (.bin .eql (.t 82) (.c (.int .i64 0)))⟩, ⟨some 84, none, (.mov (.t 83))⟩, ⟨some 85, some (84, true), (.call (.c (.fn (.func 28) [] [])) [])⟩, ⟨some 86, none, (.pick (.t 84) (.t 85) (.c (.bool false)))⟩, ⟨some 6, none, (.mov (.t 86))⟩])
 .ret)))))
theorem op_constraintlaw22_WakeLess {vals : List AV} {bs : List Box} {Q : AV → List Box → Prop} (hn : vals.length ≤ 87) (h : (⟨params 0 vals, bs, bs.length⟩ : St).fo true fun s => rc_constraintlaw22_WakeLess.gp Try.prog true s (retP [.slot 6] Q)) : AM.Sem Try.prog 8 vals bs Q :=
  Sem.nrm (Sem.of (fn := Try.f8) (keeps := [(0, [0, 1, 2]), (1, [0, 1, 2, 24]), (2, [6]), (3, [0, 1, 7, 8]), (4, [0, 1, 7, 8, 37, 38]), (5, [0, 1, 7, 8, 37, 38, 39]), (6, [0, 1, 7, 8, 9, 37, 38]), (7, [0, 1, 7, 8, 9, 37, 38, 47]), (8, [6]), (9, [0, 1, 7, 8, 9, 10, 37, 38]), (10, [0, 1, 7, 8, 9, 10, 37, 38, 49, 50]), (11, [0, 1, 7, 8, 9, 10, 37, 38, 49, 50, 51]), (12, [0, 1, 7, 8, 9, 10, 11, 37, 38, 49, 50]), (13, [0, 1, 7, 8, 9, 10, 37, 38, 49, 50]), (14, [0, 1, 7, 8, 9, 10, 37, 38, 49, 50]), (15, [0, 1, 7, 8, 10, 37, 38, 74]), (16, [6]), (17, [0, 1, 7, 8, 37, 38]), (18, [6])]) (solo := []) Try.func8 rfl (by kernel_rfl) (by kernel_rfl) (by kernel_rfl) hn (run_gp h))

def rc_constraintlaw19_Few : RC :=
 (.seq
 (.reg false [0] [
 ⟨some 2, none, (.mov (.c (.bool false)))⟩])
 (.seq
 (.seq
 (.reg false [0, 6] [
 ⟨some 4, none, (.mov (.t 0))⟩, ⟨some 5, none, (.len false (.t 4))⟩, ⟨some 6, none, (.bin .gtr (.t 5) (.c (.int .i64 600)))⟩])
 (.cond (.t 6)
 (.seq
 (.reg false [2] [
 ⟨some 2, none, (.mov (.c (.bool false)))⟩])
 .ret)
 .skip))
 (.seq
 (.seq
 (.reg false [0, 8, 9] [
 ⟨some 7, none, (.mov (.t 0))⟩, ⟨some 8, none, (.len false (.t 7))⟩, ⟨some 9, none, (.mov (.c (.int .i64 0)))⟩])
 (.block 0
 (.loop
 (.seq
 (.reg false [0, 8, 9, 10] [
 ⟨some 10, none, (.bin .lss (.t 9) (.t 8))⟩])
 (.seq
 (.cond (.t 10)
 .skip
 (.exit 0))
 (.seq
 (.block 1
 (.seq
 (.reg false [0, 3, 8, 9] [
 ⟨some 11, none, (.mov (.t 9))⟩, ⟨some 3, none, (.mov (.t 11))⟩])
 (.seq
 (.reg false [0, 8, 9, 18] [
 ⟨some 12, none, (.mov (.t 0))⟩, ⟨some 13, none, (.mov (.t 3))⟩, ⟨some 14, none, (.idx 3 (.t 12) (.t 13))⟩, ⟨some 15, none, (.fptr 1 (.t 14))⟩, ⟨some 16, none, (.load true 2 (.t 15))⟩, ⟨some 17, none, (.call (.c (.fn (.func 72) [] [])) [(.t 16)])⟩, ⟨some 18, none, (.un .not (.t 17))⟩])
 (.cond (.t 18)
 (.seq
 (.reg false [2] [
 ⟨some 2, none, (.mov (.c (.bool false)))⟩])
 .ret)
 .skip))))
 (.reg false [0, 8, 9] [
 ⟨some 19, none, (.bin .add (.t 9) (.c (.int .i64 1)))⟩, ⟨some 9, none, (.mov (.t 19))⟩])))))))
 (.seq
 (.reg false [2] [
 ⟨some 2, none, (.mov (.c (.bool true)))⟩])
 .ret))))
theorem op_constraintlaw19_Few {vals : List AV} {bs : List Box} {Q : AV → List Box → Prop} (hn : vals.length ≤ 20) (h : (⟨params 0 vals, bs, bs.length⟩ : St).fo true fun s => rc_constraintlaw19_Few.gp Try.prog true s (retP [.slot 2] Q)) : AM.Sem Try.prog 27 vals bs Q :=
  Sem.nrm (Sem.of (fn := Try.f27) (keeps := [(0, [0]), (1, [0, 6]), (2, [2]), (3, [0, 8, 9]), (4, [0, 8, 9, 10]), (5, [0, 3, 8, 9]), (6, [0, 8, 9, 18]), (7, [2]), (8, [0, 8, 9]), (9, [2])]) (solo := []) Try.func27 rfl (by kernel_rfl) (by kernel_rfl) (by kernel_rfl) hn (run_gp h))

def rc_constraintlaw19_Brief : RC :=
 (.seq
 (.reg false [1] [
 ⟨some 1, none, (.box (.t 0))⟩, ⟨some 2, none, (.mov (.c (.bool false)))⟩])
 (.seq
 (.seq
 (.reg false [1, 7] [
 ⟨some 4, none, (.fptr 1 (.t 1))⟩, ⟨some 5, none, (.load false 1 (.t 4))⟩, ⟨some 6, none, (.len false (.t 5))⟩, ⟨some 7, none, (.bin .gtr (.t 6) (.c (.int .i64 10)))⟩])
 (.cond (.t 7)
 (.seq
 (.reg false [2] [
 ⟨some 2, none, (.mov (.c (.bool false)))⟩])
 .ret)
 .skip))
 (.seq
 (.seq
 (.reg false [1, 10, 11] [
 ⟨some 8, none, (.fptr 1 (.t 1))⟩, ⟨some 9, none, (.load false 1 (.t 8))⟩, ⟨some 10, none, (.len false (.t 9))⟩, ⟨some 11, none, (.mov (.c (.int .i64 0)))⟩])
 (.block 0
 (.loop
 (.seq
 (.reg false [1, 10, 11, 12] [
 ⟨some 12, none, (.bin .lss (.t 11) (.t 10))⟩])
 (.seq
 (.cond (.t 12)
 .skip
 (.exit 0))
 (.seq
 (.block 1
 (.seq
 (.reg false [1, 3, 10, 11] [
 ⟨some 13, none, (.mov (.t 11))⟩, ⟨some 3, none, (.mov (.t 13))⟩])
 (.seq
 (.reg false [1, 10, 11, 20] [
 ⟨some 14, none, (.fptr 1 (.t 1))⟩, ⟨some 15, none, (.load false 1 (.t 14))⟩, ⟨some 16, none, (.mov (.t 3))⟩, ⟨some 17, none, (.idx 4 (.t 15) (.t 16))⟩, ⟨some 18, none, (.load true 4 (.t 17))⟩, ⟨some 19, none, (.call (.c (.fn (.func 78) [] [])) [(.t 18)])⟩, ⟨some 20, none, (.un .not (.t 19))⟩])
 (.cond (.t 20)
 (.seq
 (.reg false [2] [
 ⟨some 2, none, (.mov (.c (.bool false)))⟩])
 .ret)
 .skip))))
 (.reg false [1, 10, 11] [
 ⟨some 21, none, (.bin .add (.t 11) (.c (.int .i64 1)))⟩, ⟨some 11, none, (.mov (.t 21))⟩])))))))
 (.seq
 (.reg false [2] [
 ⟨some 2, none, (.mov (.c (.bool true)))⟩])
 .ret))))
theorem op_constraintlaw19_Brief {vals : List AV} {bs : List Box} {Q : AV → List Box → Prop} (hn : vals.length ≤ 22) (h : (⟨params 0 vals, bs, bs.length⟩ : St).fo true fun s => rc_constraintlaw19_Brief.gp Try.prog true s (retP [.slot 2] Q)) : AM.Sem Try.prog 72 vals bs Q :=
  Sem.nrm (Sem.of (fn := Try.f72) (keeps := [(0, [1]), (1, [1, 7]), (2, [2]), (3, [1, 10, 11]), (4, [1, 10, 11, 12]), (5, [1, 3, 10, 11]), (6, [1, 10, 11, 20]), (7, [2]), (8, [1, 10, 11]), (9, [2])]) (solo := []) Try.func72 rfl (by kernel_rfl) (by kernel_rfl) (by kernel_rfl) hn (run_gp h))

theorem opS_wake_set_has {vals : List AV} {bs : List Box} {Q : AV → List Box → Prop} (hn : vals.length ≤ 14) (h : (⟨params 0 vals, bs, bs.length⟩ : St).fo false fun s => rc_wake_set_has.gp Try.prog false s (retP [.slot 4] Q)) : AM.Sem Try.prog 73 vals bs Q :=
  Sem.nrm (Sem.of (fn := Try.f73) (keeps := [(0, [0, 1]), (1, [6]), (2, [4])]) (solo := []) Try.func73 rfl (by kernel_rfl) (by kernel_rfl) (by kernel_rfl) hn (run_gp h))

end Go.CK
