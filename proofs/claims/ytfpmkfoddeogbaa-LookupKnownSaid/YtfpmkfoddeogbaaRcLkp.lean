/-
  LOOKUP: the small code of functions of the program, printed by wip/gen/rc.py, each checked against the program by the kernel. By an AI agent.
-/
import Derived.Test.YtfpmkfoddeogbaaProg
import Derived.Test.YtfpmkfoddeogbaaAmP
namespace Go.CK
open Go.AM Go.Proofs

def rc_lookup_Known : RC :=
 (.seq
 (.reg false [1, 2, 3] [
 ⟨some 3, none, (.box (.t 0))⟩, ⟨some 6, none, (.mov (.c (.sl .full [])))⟩])
 (.seq
 (.reg false [1, 2, 7] [
 ⟨some 16, none, (.load true 6 (.t 3))⟩, ⟨some 17, none, (.call (.c (.fn (.func 54) [] [])) [(.t 16)])⟩, ⟨some 7, none, (.mov (.t 17))⟩])
 (.seq
 (.seq
 (.reg false [1, 2, 7, 25] [
 ⟨some 18, none, (.mov (.t 2))⟩, ⟨some 19, none, (.bin .lss (.t 18) (.c (.int .i64 0)))⟩, ⟨some 20, none, (.mov (.t 19))⟩, ⟨some 21, some (20, false), (.mov (.t 2))⟩, ⟨some 22, some (20, false), (.mov (.t 7))⟩, ⟨some 23, some (20, false), (.len false (.t 22))⟩, ⟨some 24, some (20, false), (.bin .geq (.t 21) (.t 23))⟩, ⟨some 25, none, (.pick (.t 20) (.c (.bool true)) (.t 24))⟩])
 (.cond (.t 25)
 (.seq
 (.reg false [6] [
 ⟨some 6, none, (.mov (.c (.sl .full [])))⟩])
 .ret)
 .skip))
 (.seq
 (.reg false [1, 2, 7, 8] [
 ⟨some 26, none, (.eff .mkM [])⟩, ⟨some 8, none, (.box (.c .nmp))⟩, ⟨none, none, (.store 1 (.t 8) (.t 26))⟩])
 (.seq
 (.seq
 (.reg false [2, 7, 8, 27, 28, 29] [
 ⟨some 27, none, (.mov (.t 1))⟩, ⟨some 28, none, (.len false (.t 27))⟩, ⟨some 29, none, (.mov (.c (.int .i64 0)))⟩])
 (.block 0
 (.loop
 (.seq
 (.reg false [2, 7, 8, 27, 28, 29, 30] [
 ⟨some 30, none, (.bin .lss (.t 29) (.t 28))⟩])
 (.seq
 (.cond (.t 30)
 .skip
 (.exit 0))
 (.seq
 (.block 1
 (.seq
 (.reg false [2, 7, 8, 10, 27, 28, 29] [
 ⟨some 31, none, (.idx 1 (.t 27) (.t 29))⟩, ⟨some 32, none, (.load false 1 (.t 31))⟩, ⟨some 10, none, (.mov (.t 32))⟩])
 (.seq
 (.reg false [2, 7, 8, 10, 27, 28, 29, 40] [
 ⟨some 33, none, (.mov (.t 10))⟩, ⟨some 34, none, (.bin .geq (.t 33) (.c (.int .i64 0)))⟩, ⟨some 35, none, (.mov (.t 34))⟩, ⟨some 36, some (35, true), (.mov (.t 10))⟩, ⟨some 37, some (35, true), (.mov (.t 7))⟩, ⟨some 38, some (35, true), (.len false (.t 37))⟩, ⟨some 39, some (35, true), (.bin .lss (.t 36) (.t 38))⟩, ⟨some 40, none, (.pick (.t 35) (.t 39) (.c (.bool false)))⟩])
 (.cond (.t 40)
 (.seq
 (.reg false [2, 7, 8, 27, 28, 29, 45, 46, 47] [
 ⟨some 41, none, (.mov (.t 7))⟩, ⟨some 42, none, (.mov (.t 10))⟩, ⟨some 43, none, (.idx 2 (.t 41) (.t 42))⟩, ⟨some 44, none, (.load true 2 (.t 43))⟩, ⟨some 45, none, (.call (.c (.fn (.func 55) [] [])) [(.t 44)])⟩, ⟨some 46, none, (.len false (.t 45))⟩, ⟨some 47, none, (.mov (.c (.int .i64 0)))⟩])
 (.block 2
 (.loop
 (.seq
 (.reg false [2, 7, 8, 27, 28, 29, 45, 46, 47, 48] [
 ⟨some 48, none, (.bin .lss (.t 47) (.t 46))⟩])
 (.seq
 (.cond (.t 48)
 .skip
 (.exit 2))
 (.seq
 (.block 3
 (.seq
 (.reg false [2, 7, 8, 12, 27, 28, 29, 45, 46, 47] [
 ⟨some 49, none, (.idx 1 (.t 45) (.t 47))⟩, ⟨some 50, none, (.load false 1 (.t 49))⟩, ⟨some 12, none, (.mov (.t 50))⟩])
 (.reg false [2, 7, 8, 27, 28, 29, 45, 46, 47] [
 ⟨some 51, none, (.load false 1 (.t 8))⟩, ⟨some 52, none, (.mov (.t 12))⟩, ⟨none, none, (.eff .setM [(.t 51), (.t 52), (.c (.bool true))])⟩])))
 (.reg false [2, 7, 8, 27, 28, 29, 45, 46, 47] [
 ⟨some 53, none, (.bin .add (.t 47) (.c (.int .i64 1)))⟩, ⟨some 47, none, (.mov (.t 53))⟩])))))))
 .skip))))
 (.reg false [2, 7, 8, 27, 28, 29] [
 ⟨some 54, none, (.bin .add (.t 29) (.c (.int .i64 1)))⟩, ⟨some 29, none, (.mov (.t 54))⟩])))))))
 (.seq
 (.reg false [2, 7, 8, 13] [
 ⟨some 13, none, (.mov (.c (.sl .full [])))⟩])
 (.seq
 (.seq
 (.reg false [8, 13, 59, 60, 61] [
 ⟨some 55, none, (.mov (.t 7))⟩, ⟨some 56, none, (.mov (.t 2))⟩, ⟨some 57, none, (.idx 2 (.t 55) (.t 56))⟩, ⟨some 58, none, (.fptr 1 (.t 57))⟩, ⟨some 59, none, (.load false 1 (.t 58))⟩, ⟨some 60, none, (.len false (.t 59))⟩, ⟨some 61, none, (.mov (.c (.int .i64 0)))⟩])
 (.block 4
 (.loop
 (.seq
 (.reg false [8, 13, 59, 60, 61, 62] [
 ⟨some 62, none, (.bin .lss (.t 61) (.t 60))⟩])
 (.seq
 (.cond (.t 62)
 .skip
 (.exit 4))
 (.seq
 (.block 5
 (.seq
 (.reg false [8, 13, 14, 15, 59, 60, 61] [
 ⟨some 63, none, (.mov (.t 61))⟩, ⟨some 64, none, (.idx 4 (.t 59) (.t 61))⟩, ⟨some 65, none, (.load true 4 (.t 64))⟩, ⟨some 15, none, (.box (.c (.agg [(.int .i64 0), (.int .i64 0), (.str ⟨⟨[]⟩⟩), (.sl .full [])])))⟩, ⟨some 14, none, (.mov (.t 63))⟩, ⟨none, none, (.store 4 (.t 15) (.t 65))⟩])
 (.seq
 (.reg false [8, 13, 14, 59, 60, 61, 70] [
 ⟨some 66, none, (.load true 4 (.t 15))⟩, ⟨some 67, none, (.call (.c (.fn (.func 57) [] [])) [(.t 66)])⟩, ⟨some 68, none, (.mkfn (.func 58) [] [(.t 8)])⟩, ⟨some 69, none, (.call (.c (.fn (.func 56) [] [])) [(.t 67), (.t 68)])⟩, ⟨some 70, none, (.un .not (.t 69))⟩])
 (.cond (.t 70)
 (.reg false [8, 13, 59, 60, 61] [
 ⟨some 71, none, (.mov (.t 13))⟩, ⟨some 72, none, (.mov (.t 14))⟩, ⟨some 73, none, (.bslice 1 [(.t 72)])⟩, ⟨some 74, none, (.append 1 (.t 71) (.t 73))⟩, ⟨some 13, none, (.mov (.t 74))⟩])
 .skip))))
 (.reg false [8, 13, 59, 60, 61] [
 ⟨some 75, none, (.bin .add (.t 61) (.c (.int .i64 1)))⟩, ⟨some 61, none, (.mov (.t 75))⟩])))))))
 (.seq
 (.reg false [6] [
 ⟨some 76, none, (.mov (.t 13))⟩, ⟨some 6, none, (.mov (.t 76))⟩])
 .ret))))))))
theorem op_lookup_Known {vals : List AV} {bs : List Box} {Q : AV → List Box → Prop} (hn : vals.length ≤ 77) (h : (⟨params 0 vals, bs, bs.length⟩ : St).fo true fun s => rc_lookup_Known.gp Try.prog true s (retP [.slot 6] Q)) : AM.Sem Try.prog 15 vals bs Q :=
  Sem.nrm (Sem.of (fn := Try.f15) (keeps := [(0, [1, 2, 3]), (1, [1, 2, 7]), (2, [1, 2, 7, 25]), (3, [6]), (4, [1, 2, 7, 8]), (5, [2, 7, 8, 27, 28, 29]), (6, [2, 7, 8, 27, 28, 29, 30]), (7, [2, 7, 8, 10, 27, 28, 29]), (8, [2, 7, 8, 10, 27, 28, 29, 40]), (9, [2, 7, 8, 27, 28, 29, 45, 46, 47]), (10, [2, 7, 8, 27, 28, 29, 45, 46, 47, 48]), (11, [2, 7, 8, 12, 27, 28, 29, 45, 46, 47]), (12, [2, 7, 8, 27, 28, 29, 45, 46, 47]), (13, [2, 7, 8, 27, 28, 29, 45, 46, 47]), (14, [2, 7, 8, 27, 28, 29]), (15, [2, 7, 8, 13]), (16, [8, 13, 59, 60, 61]), (17, [8, 13, 59, 60, 61, 62]), (18, [8, 13, 14, 15, 59, 60, 61]), (19, [8, 13, 14, 59, 60, 61, 70]), (20, [8, 13, 59, 60, 61]), (21, [8, 13, 59, 60, 61]), (22, [6])]) (solo := []) Try.func15 rfl (by kernel_rfl) (by kernel_rfl) (by kernel_rfl) hn (run_gp h))

def rc_lookup_head : RC :=
 (.seq
 (.reg false [2, 3, 4, 6, 7] [
 ⟨some 3, none, (.box (.t 0))⟩, ⟨some 4, none, (.box (.t 1))⟩, ⟨some 6, none, (.box (.c (.agg [(.str ⟨⟨[]⟩⟩), (.sl .full [])])))⟩, ⟨some 7, none, (.mov (.c (.sl .full [])))⟩, ⟨some 8, none, (.mov (.c (.bool false)))⟩])
 (.seq
 (.seq
 (.reg false [2, 3, 4, 6, 7, 34] [
 ⟨some 11, none, (.mov (.t 2))⟩, ⟨some 12, none, (.bin .lss (.t 11) (.c (.int .i64 0)))⟩, ⟨some 13, none, (.mov (.t 12))⟩, ⟨some 14, some (13, false), (.mov (.t 2))⟩, ⟨some 15, some (13, false), (.fptr 3 (.t 4))⟩, ⟨some 16, some (13, false), (.load false 1 (.t 15))⟩, ⟨some 17, some (13, false), (.len false (.t 16))⟩, ⟨some 18, some (13, false), (.bin .geq (.t 14) (.t 17))⟩, ⟨some 19, none, (.pick (.t 13) (.c (.bool true)) (.t 18))⟩, ⟨some 20, none, (.mov (.t 19))⟩, ⟨some 21, some (20, false), (.fptr 0 (.t 4))⟩, ⟨some 22, some (20, false), (.fptr 0 (.t 21))⟩, ⟨some 23, some (20, false), (.load false 1 (.t 22))⟩, ⟨some 24, some (20, false), (.bin .lss (.t 23) (.c (.int .i64 0)))⟩, ⟨some 25, none, (.pick (.t 20) (.c (.bool true)) (.t 24))⟩, ⟨some 26, none, (.mov (.t 25))⟩, ⟨some 27, some (26, false), (.fptr 0 (.t 4))⟩, ⟨some 28, some (26, false), (.fptr 0 (.t 27))⟩, ⟨some 29, some (26, false), (.load false 1 (.t 28))⟩, ⟨some 30, some (26, false), (.fptr 1 (.t 3))⟩, ⟨some 31, some (26, false), (.load false 1 (.t 30))⟩, ⟨some 32, some (26, false), (.len false (.t 31))⟩, ⟨some 33, some (26, false), (.bin .geq (.t 29) (.t 32))⟩, ⟨some 34, none, (.pick (.t 26) (.c (.bool true)) (.t 33))⟩])
 (.cond (.t 34)
 (.seq
 (.reg false [6, 7, 8] [
 ⟨some 35, none, (.build [(.str ⟨⟨[]⟩⟩), (.sl .full [])] [])⟩, ⟨none, none, (.store 2 (.t 6) (.t 35))⟩, ⟨some 7, none, (.mov (.c (.sl .full [])))⟩, ⟨some 8, none, (.mov (.c (.bool false)))⟩])
 .ret)
 .skip))
 (.seq
 (.reg true [2, 4, 6, 7, 9, 10] [
 ⟨some 36, none, (.fptr 1 (.t 3))⟩, ⟨some 37, none, (.load false 1 (.t 36))⟩, ⟨some 38, none, (.fptr 0 (.t 4))⟩, ⟨some 39, none, (.fptr 0 (.t 38))⟩, ⟨some 40, none, (.load false 1 (.t 39))⟩, ⟨some 41, none, (.idx 6 (.t 37) (.t 40))⟩, ⟨some 42, none, (.load true 6 (.t 41))⟩, ⟨some 43, none, (.call (.c (.fn (.func 54) [] [])) [(.t 42)])⟩, ⟨some 44, none, (.fptr 3 (.t 4))⟩, ⟨some 45, none, (.load false 1 (.t 44))⟩, ⟨some 46, none, (.take 2)⟩, ⟨some 47, none, (.idx 1 (.t 45) (.t 46))⟩, ⟨some 48, none, (.load false 1 (.t 47))⟩, ⟨some 9, none, (.take 43)⟩, ⟨some 10, none, (.take 48)⟩])
 (.seq
 (.seq
 (.reg false [2, 4, 6, 7, 9, 10, 56] [
 ⟨some 49, none, (.mov (.t 10))⟩, ⟨some 50, none, (.bin .lss (.t 49) (.c (.int .i64 0)))⟩, ⟨some 51, none, (.mov (.t 50))⟩, ⟨some 52, some (51, false), (.mov (.t 10))⟩, ⟨some 53, some (51, false), (.mov (.t 9))⟩, ⟨some 54, some (51, false), (.len false (.t 53))⟩, ⟨some 55, some (51, false), (.bin .geq (.t 52) (.t 54))⟩, ⟨some 56, none, (.pick (.t 51) (.c (.bool true)) (.t 55))⟩])
 (.cond (.t 56)
 (.seq
 (.reg false [6, 7, 8] [
 ⟨some 57, none, (.build [(.str ⟨⟨[]⟩⟩), (.sl .full [])] [])⟩, ⟨none, none, (.store 2 (.t 6) (.t 57))⟩, ⟨some 7, none, (.mov (.c (.sl .full [])))⟩, ⟨some 8, none, (.mov (.c (.bool false)))⟩])
 .ret)
 .skip))
 (.seq
 (.seq
 (.reg false [2, 4, 6, 7, 9, 10, 62] [
 ⟨some 58, none, (.mov (.t 2))⟩, ⟨some 59, none, (.fptr 4 (.t 4))⟩, ⟨some 60, none, (.load false 1 (.t 59))⟩, ⟨some 61, none, (.len false (.t 60))⟩, ⟨some 62, none, (.bin .lss (.t 58) (.t 61))⟩])
 (.cond (.t 62)
 (.reg false [6, 7, 9, 10] [
 ⟨some 63, none, (.fptr 4 (.t 4))⟩, ⟨some 64, none, (.load false 1 (.t 63))⟩, ⟨some 65, none, (.mov (.t 2))⟩, ⟨some 66, none, (.idx 1 (.t 64) (.t 65))⟩, ⟨some 67, none, (.load false 1 (.t 66))⟩, ⟨some 7, none, (.mov (.t 67))⟩])
 .skip))
 (.seq
 (.reg false [6, 7, 8] [
 ⟨some 68, none, (.mov (.t 9))⟩, ⟨some 69, none, (.mov (.t 10))⟩, ⟨some 70, none, (.idx 2 (.t 68) (.t 69))⟩, ⟨some 71, none, (.load true 2 (.t 70))⟩, ⟨some 72, none, (.mov (.t 7))⟩, ⟨none, none, (.store 2 (.t 6) (.t 71))⟩, ⟨some 7, none, (.mov (.t 72))⟩, ⟨some 8, none, (.mov (.c (.bool true)))⟩])
 .ret))))))
theorem op_lookup_head {vals : List AV} {bs : List Box} {Q : AV → List Box → Prop} (hn : vals.length ≤ 73) (h : (⟨params 0 vals, bs, bs.length⟩ : St).fo true fun s => rc_lookup_head.gp Try.prog true s (retP [.cell 6 true 2, .slot 7, .slot 8] Q)) : AM.Sem Try.prog 66 vals bs Q :=
  Sem.nrm (Sem.of (fn := Try.f66) (keeps := [(0, [2, 3, 4, 6, 7]), (1, [2, 3, 4, 6, 7, 34]), (2, [6, 7, 8]), (3, [2, 4, 6, 7, 9, 10]), (4, [2, 4, 6, 7, 9, 10, 56]), (5, [6, 7, 8]), (6, [2, 4, 6, 7, 9, 10, 62]), (7, [6, 7, 9, 10]), (8, [6, 7, 8])]) (solo := []) Try.func66 rfl (by kernel_rfl) (by kernel_rfl) (by kernel_rfl) hn (run_gp h))

def rc_lookup_find : RC :=
 (.seq
 (.reg false [0, 4, 5] [
 ⟨some 4, none, (.box (.t 1))⟩, ⟨some 5, none, (.box (.t 2))⟩, ⟨some 6, none, (.mov (.c (.int .i64 0)))⟩])
 (.seq
 (.reg false [6] [
 ⟨some 7, none, (.mov (.t 0))⟩, ⟨some 8, none, (.mkfn (.func 95) [] [(.t 4), (.t 5)])⟩, ⟨some 9, none, (.call (.c (.fn (.func 94) [] [])) [(.t 7), (.t 8)])⟩, ⟨some 6, none, (.mov (.t 9))⟩])
 .ret))
theorem op_lookup_find {vals : List AV} {bs : List Box} {Q : AV → List Box → Prop} (hn : vals.length ≤ 10) (h : (⟨params 0 vals, bs, bs.length⟩ : St).fo true fun s => rc_lookup_find.gp Try.prog true s (retP [.slot 6] Q)) : AM.Sem Try.prog 67 vals bs Q :=
  Sem.nrm (Sem.of (fn := Try.f67) (keeps := [(0, [0, 4, 5]), (1, [6])]) (solo := []) Try.func67 rfl (by kernel_rfl) (by kernel_rfl) (by kernel_rfl) hn (run_gp h))

def rc_lookup_All : RC :=
 (.seq
 (.reg false [1, 2] [
 ⟨some 2, none, (.box (.t 0))⟩, ⟨some 4, none, (.mov (.c (.sl .full [])))⟩])
 (.seq
 (.reg false [1, 2, 5] [
 ⟨some 5, none, (.mov (.c (.sl .full [])))⟩])
 (.seq
 (.seq
 (.reg false [2, 5, 12, 13, 14] [
 ⟨some 12, none, (.mov (.t 1))⟩, ⟨some 13, none, (.len false (.t 12))⟩, ⟨some 14, none, (.mov (.c (.int .i64 0)))⟩])
 (.block 0
 (.loop
 (.seq
 (.reg false [2, 5, 12, 13, 14, 15] [
 ⟨some 15, none, (.bin .lss (.t 14) (.t 13))⟩])
 (.seq
 (.cond (.t 15)
 .skip
 (.exit 0))
 (.seq
 (.block 1
 (.seq
 (.reg false [2, 5, 7, 12, 13, 14] [
 ⟨some 16, none, (.idx 6 (.t 12) (.t 14))⟩, ⟨some 17, none, (.load true 6 (.t 16))⟩, ⟨some 7, none, (.box (.c (.agg [(.int .i64 0), (.int .i64 0), (.bool false), (.sl .full []), (.sl .full []), (.sl .full [])])))⟩, ⟨none, none, (.store 6 (.t 7) (.t 17))⟩])
 (.seq
 (.reg false [2, 5, 7, 12, 13, 14, 20, 21] [
 ⟨some 18, none, (.fptr 3 (.t 7))⟩, ⟨some 19, none, (.load false 1 (.t 18))⟩, ⟨some 20, none, (.len false (.t 19))⟩, ⟨some 21, none, (.mov (.c (.int .i64 0)))⟩])
 (.block 2
 (.loop
 (.seq
 (.reg false [2, 5, 7, 12, 13, 14, 20, 21, 22] [
 ⟨some 22, none, (.bin .lss (.t 21) (.t 20))⟩])
 (.seq
 (.cond (.t 22)
 .skip
 (.exit 2))
 (.seq
 (.block 3
 (.seq
 (.reg false [2, 5, 7, 8, 12, 13, 14, 20, 21] [
 ⟨some 23, none, (.mov (.t 21))⟩, ⟨some 8, none, (.mov (.t 23))⟩])
 (.seq
 (.reg false [2, 5, 7, 9, 10, 11, 12, 13, 14, 20, 21] [
 ⟨some 25, none, (.load true 2 (.t 2))⟩, ⟨some 26, none, (.load true 6 (.t 7))⟩, ⟨some 27, none, (.mov (.t 8))⟩, ⟨some 28, none, (.call (.c (.fn (.func 66) [] [])) [(.t 25), (.t 26), (.t 27)])⟩, ⟨some 24, none, (.mov (.t 28))⟩, ⟨some 29, none, (.ext 0 (.t 24))⟩, ⟨some 30, none, (.ext 1 (.t 24))⟩, ⟨some 31, none, (.ext 2 (.t 24))⟩, ⟨some 9, none, (.box (.c (.agg [(.str ⟨⟨[]⟩⟩), (.sl .full [])])))⟩, ⟨none, none, (.store 2 (.t 9) (.t 29))⟩, ⟨some 10, none, (.mov (.t 30))⟩, ⟨some 11, none, (.mov (.t 31))⟩])
 (.seq
 (.reg false [2, 5, 7, 9, 10, 12, 13, 14, 20, 21, 39] [
 ⟨some 32, none, (.mov (.t 11))⟩, ⟨some 33, none, (.mov (.t 32))⟩, ⟨some 34, some (33, true), (.more .see [(.t 5)])⟩, ⟨some 35, some (33, true), (.load true 2 (.t 9))⟩, ⟨some 36, some (33, true), (.mov (.t 10))⟩, ⟨some 37, some (33, true), (.call (.c (.fn (.func 67) [] [])) [(.t 34), (.t 35), (.t 36)])⟩, ⟨some 38, some (33, true), (.bin .lss (.t 37) (.c (.int .i64 0)))⟩, ⟨some 39, none, (.pick (.t 33) (.t 38) (.c (.bool false)))⟩])
 (.cond (.t 39)
 (.reg false [2, 5, 7, 12, 13, 14, 20, 21] [
 ⟨some 40, none, (.mov (.t 5))⟩, ⟨some 41, none, (.fptr 0 (.t 9))⟩, ⟨some 42, none, (.load false 1 (.t 41))⟩, ⟨some 43, none, (.fptr 1 (.t 9))⟩, ⟨some 44, none, (.load false 1 (.t 43))⟩, ⟨some 45, none, (.len false (.t 44))⟩, ⟨some 46, none, (.mov (.t 10))⟩, ⟨some 47, none, (.build [(.str ⟨⟨[]⟩⟩), (.int .i64 0), (.sl .full [])] [(0, 1, (.t 42)), (1, 1, (.t 45)), (2, 1, (.t 46))])⟩, ⟨some 48, none, (.bslice 3 [(.t 47)])⟩, ⟨some 49, none, (.append 3 (.t 40) (.t 48))⟩, ⟨some 5, none, (.mov (.t 49))⟩])
 .skip)))))
 (.reg false [2, 5, 7, 12, 13, 14, 20, 21] [
 ⟨some 50, none, (.bin .add (.t 21) (.c (.int .i64 1)))⟩, ⟨some 21, none, (.mov (.t 50))⟩])))))))))
 (.reg false [2, 5, 12, 13, 14] [
 ⟨some 51, none, (.bin .add (.t 14) (.c (.int .i64 1)))⟩, ⟨some 14, none, (.mov (.t 51))⟩])))))))
 (.seq
 (.reg false [4] [
 ⟨some 52, none, (.mov (.t 5))⟩, ⟨some 4, none, (.mov (.t 52))⟩])
 .ret))))
theorem op_lookup_All {vals : List AV} {bs : List Box} {Q : AV → List Box → Prop} (hn : vals.length ≤ 53) (h : (⟨params 0 vals, bs, bs.length⟩ : St).fo true fun s => rc_lookup_All.gp Try.prog true s (retP [.slot 4] Q)) : AM.Sem Try.prog 19 vals bs Q :=
  Sem.nrm (Sem.of (fn := Try.f19) (keeps := [(0, [1, 2]), (1, [1, 2, 5]), (2, [2, 5, 12, 13, 14]), (3, [2, 5, 12, 13, 14, 15]), (4, [2, 5, 7, 12, 13, 14]), (5, [2, 5, 7, 12, 13, 14, 20, 21]), (6, [2, 5, 7, 12, 13, 14, 20, 21, 22]), (7, [2, 5, 7, 8, 12, 13, 14, 20, 21]), (8, [2, 5, 7, 9, 10, 11, 12, 13, 14, 20, 21]), (9, [2, 5, 7, 9, 10, 12, 13, 14, 20, 21, 39]), (10, [2, 5, 7, 12, 13, 14, 20, 21]), (11, [2, 5, 7, 12, 13, 14, 20, 21]), (12, [2, 5, 12, 13, 14]), (13, [4]), (1000000, [34])]) (solo := []) Try.func19 rfl (by kernel_rfl) (by kernel_rfl) (by kernel_rfl) hn (run_gp h))

def rc_lookup_Pick : RC :=
 (.seq
 (.reg false [1, 3, 4, 6] [
 ⟨some 4, none, (.box (.t 0))⟩, ⟨some 6, none, (.box (.t 2))⟩, ⟨some 8, none, (.mov (.c (.int .i64 0)))⟩])
 (.seq
 (.seq
 (.reg false [1, 9, 10, 11] [
 ⟨some 13, none, (.load true 2 (.t 4))⟩, ⟨some 14, none, (.load true 6 (.t 6))⟩, ⟨some 15, none, (.mov (.t 3))⟩, ⟨some 16, none, (.call (.c (.fn (.func 66) [] [])) [(.t 13), (.t 14), (.t 15)])⟩, ⟨some 12, none, (.mov (.t 16))⟩, ⟨some 17, none, (.ext 0 (.t 12))⟩, ⟨some 18, none, (.ext 1 (.t 12))⟩, ⟨some 19, none, (.ext 2 (.t 12))⟩, ⟨some 9, none, (.box (.c (.agg [(.str ⟨⟨[]⟩⟩), (.sl .full [])])))⟩, ⟨none, none, (.store 2 (.t 9) (.t 17))⟩, ⟨some 10, none, (.mov (.t 18))⟩, ⟨some 11, none, (.mov (.t 19))⟩])
 (.seq
 (.reg false [1, 9, 10, 20] [
 ⟨some 20, none, (.mov (.t 11))⟩])
 (.cond (.t 20)
 (.seq
 (.reg false [8] [
 ⟨some 21, none, (.mov (.t 1))⟩, ⟨some 22, none, (.load true 2 (.t 9))⟩, ⟨some 23, none, (.mov (.t 10))⟩, ⟨some 24, none, (.call (.c (.fn (.func 67) [] [])) [(.t 21), (.t 22), (.t 23)])⟩, ⟨some 8, none, (.mov (.t 24))⟩])
 .ret)
 .skip)))
 (.seq
 (.reg false [8] [
 ⟨some 8, none, (.mov (.c (.int .i64 (-1))))⟩])
 .ret)))
theorem op_lookup_Pick {vals : List AV} {bs : List Box} {Q : AV → List Box → Prop} (hn : vals.length ≤ 25) (h : (⟨params 0 vals, bs, bs.length⟩ : St).fo true fun s => rc_lookup_Pick.gp Try.prog true s (retP [.slot 8] Q)) : AM.Sem Try.prog 22 vals bs Q :=
  Sem.nrm (Sem.of (fn := Try.f22) (keeps := [(0, [1, 3, 4, 6]), (1, [1, 9, 10, 11]), (2, [1, 9, 10, 20]), (3, [8]), (4, [8])]) (solo := []) Try.func22 rfl (by kernel_rfl) (by kernel_rfl) (by kernel_rfl) hn (run_gp h))

def rc_lookup_Key : RC :=
 (.seq
 (.reg false [2, 3, 4] [
 ⟨some 3, none, (.box (.t 0))⟩, ⟨some 4, none, (.box (.t 1))⟩, ⟨some 6, none, (.mov (.c (.sl .full [])))⟩])
 (.seq
 (.reg false [7, 8] [
 ⟨some 14, none, (.load true 2 (.t 3))⟩, ⟨some 15, none, (.load true 6 (.t 4))⟩, ⟨some 16, none, (.mov (.t 2))⟩, ⟨some 17, none, (.call (.c (.fn (.func 66) [] [])) [(.t 14), (.t 15), (.t 16)])⟩, ⟨some 13, none, (.mov (.t 17))⟩, ⟨some 18, none, (.ext 0 (.t 13))⟩, ⟨some 19, none, (.ext 1 (.t 13))⟩, ⟨some 20, none, (.ext 2 (.t 13))⟩, ⟨some 7, none, (.box (.c (.agg [(.str ⟨⟨[]⟩⟩), (.sl .full [])])))⟩, ⟨none, none, (.store 2 (.t 7) (.t 18))⟩, ⟨some 8, none, (.mov (.t 19))⟩, ⟨some 9, none, (.mov (.t 20))⟩])
 (.seq
 (.reg false [7, 8, 10] [
 ⟨some 10, none, (.mov (.c (.sl .full [])))⟩])
 (.seq
 (.seq
 (.reg false [7, 10, 21, 22, 23] [
 ⟨some 21, none, (.mov (.t 8))⟩, ⟨some 22, none, (.len false (.t 21))⟩, ⟨some 23, none, (.mov (.c (.int .i64 0)))⟩])
 (.block 0
 (.loop
 (.seq
 (.reg false [7, 10, 21, 22, 23, 24] [
 ⟨some 24, none, (.bin .lss (.t 23) (.t 22))⟩])
 (.seq
 (.cond (.t 24)
 .skip
 (.exit 0))
 (.seq
 (.block 1
 (.seq
 (.reg false [7, 10, 12, 21, 22, 23] [
 ⟨some 25, none, (.idx 1 (.t 21) (.t 23))⟩, ⟨some 26, none, (.load false 1 (.t 25))⟩, ⟨some 12, none, (.mov (.t 26))⟩])
 (.seq
 (.reg false [7, 10, 12, 21, 22, 23, 35] [
 ⟨some 27, none, (.mov (.t 12))⟩, ⟨some 28, none, (.bin .geq (.t 27) (.c (.int .i64 0)))⟩, ⟨some 29, none, (.mov (.t 28))⟩, ⟨some 30, some (29, true), (.mov (.t 12))⟩, ⟨some 31, some (29, true), (.fptr 1 (.t 7))⟩, ⟨some 32, some (29, true), (.load false 1 (.t 31))⟩, ⟨some 33, some (29, true), (.len false (.t 32))⟩, ⟨some 34, some (29, true), (.bin .lss (.t 30) (.t 33))⟩, ⟨some 35, none, (.pick (.t 29) (.t 34) (.c (.bool false)))⟩])
 (.cond (.t 35)
 (.reg false [7, 10, 21, 22, 23] [
 ⟨some 36, none, (.mov (.t 10))⟩, ⟨some 37, none, (.fptr 1 (.t 7))⟩, ⟨some 38, none, (.load false 1 (.t 37))⟩, ⟨some 39, none, (.mov (.t 12))⟩, ⟨some 40, none, (.idx 4 (.t 38) (.t 39))⟩, ⟨some 41, none, (.load true 4 (.t 40))⟩, ⟨some 42, none, (.bslice 4 [(.t 41)])⟩, ⟨some 43, none, (.append 4 (.t 36) (.t 42))⟩, ⟨some 10, none, (.mov (.t 43))⟩])
 .skip))))
 (.reg false [7, 10, 21, 22, 23] [
 ⟨some 44, none, (.bin .add (.t 23) (.c (.int .i64 1)))⟩, ⟨some 23, none, (.mov (.t 44))⟩])))))))
 (.seq
 (.reg false [6] [
 ⟨some 45, none, (.mov (.t 10))⟩, ⟨some 6, none, (.mov (.t 45))⟩])
 .ret)))))
theorem op_lookup_Key {vals : List AV} {bs : List Box} {Q : AV → List Box → Prop} (hn : vals.length ≤ 46) (h : (⟨params 0 vals, bs, bs.length⟩ : St).fo true fun s => rc_lookup_Key.gp Try.prog true s (retP [.slot 6] Q)) : AM.Sem Try.prog 25 vals bs Q :=
  Sem.nrm (Sem.of (fn := Try.f25) (keeps := [(0, [2, 3, 4]), (1, [7, 8]), (2, [7, 8, 10]), (3, [7, 10, 21, 22, 23]), (4, [7, 10, 21, 22, 23, 24]), (5, [7, 10, 12, 21, 22, 23]), (6, [7, 10, 12, 21, 22, 23, 35]), (7, [7, 10, 21, 22, 23]), (8, [7, 10, 21, 22, 23]), (9, [6])]) (solo := []) Try.func25 rfl (by kernel_rfl) (by kernel_rfl) (by kernel_rfl) hn (run_gp h))

def rc_lookup_Known_1 : RC :=
 (.seq
 (.reg false [0, 1] [
 ⟨some 3, none, (.mov (.c (.bool false)))⟩])
 (.seq
 (.reg false [3] [
 ⟨some 4, none, (.load false 1 (.t 1))⟩, ⟨some 5, none, (.mov (.t 0))⟩, ⟨some 6, none, (.eff (.getM false (.bool false)) [(.t 4), (.t 5)])⟩, ⟨some 7, none, (.un .not (.t 6))⟩, ⟨some 3, none, (.mov (.t 7))⟩])
 .ret))
theorem op_lookup_Known_1 {vals : List AV} {bs : List Box} {Q : AV → List Box → Prop} (hn : vals.length ≤ 8) (h : (⟨params 0 vals, bs, bs.length⟩ : St).fo true fun s => rc_lookup_Known_1.gp Try.prog true s (retP [.slot 3] Q)) : AM.Sem Try.prog 58 vals bs Q :=
  Sem.nrm (Sem.of (fn := Try.f58) (keeps := [(0, [0, 1]), (1, [3])]) (solo := []) Try.func58 rfl (by kernel_rfl) (by kernel_rfl) (by kernel_rfl) hn (run_gp h))

def rc_lookup_find_1 : RC :=
 (.seq
 (.reg false [1, 2, 3] [
 ⟨some 3, none, (.box (.t 0))⟩, ⟨some 4, none, (.mov (.c (.bool false)))⟩])
 (.seq
 (.reg false [4] [
 ⟨some 5, none, (.fptr 0 (.t 3))⟩, ⟨some 6, none, (.load false 1 (.t 5))⟩, ⟨some 7, none, (.fptr 0 (.t 1))⟩, ⟨some 8, none, (.load false 1 (.t 7))⟩, ⟨some 9, none, (.bin .eql (.t 6) (.t 8))⟩, ⟨some 10, none, (.mov (.t 9))⟩, ⟨some 11, some (10, true), (.fptr 1 (.t 3))⟩, ⟨some 12, some (10, true), (.load false 1 (.t 11))⟩, ⟨some 13, some (10, true), (.fptr 1 (.t 1))⟩, ⟨some 14, some (10, true), (.load false 1 (.t 13))⟩, ⟨some 15, some (10, true), (.len false (.t 14))⟩, ⟨some 16, some (10, true), (.bin .eql (.t 12) (.t 15))⟩, ⟨some 17, none, (.pick (.t 10) (.t 16) (.c (.bool false)))⟩, ⟨some 18, none, (.mov (.t 17))⟩, ⟨some 19, some (18, true), (.fptr 2 (.t 3))⟩, ⟨some 20, some (18, true), (.load false 1 (.t 19))⟩, ⟨some 21, some (18, true), (.load false 1 (.t 2))⟩, ⟨some 22, some (18, true), (.call (.c (.fn (.func 87) [] [])) [(.t 20), (.t 21)])⟩, ⟨some 23, none, (.pick (.t 18) (.t 22) (.c (.bool false)))⟩, ⟨some 4, none, (.mov (.t 23))⟩])
 .ret))
theorem op_lookup_find_1 {vals : List AV} {bs : List Box} {Q : AV → List Box → Prop} (hn : vals.length ≤ 24) (h : (⟨params 0 vals, bs, bs.length⟩ : St).fo true fun s => rc_lookup_find_1.gp Try.prog true s (retP [.slot 4] Q)) : AM.Sem Try.prog 95 vals bs Q :=
  Sem.nrm (Sem.of (fn := Try.f95) (keeps := [(0, [1, 2, 3]), (1, [4])]) (solo := []) Try.func95 rfl (by kernel_rfl) (by kernel_rfl) (by kernel_rfl) hn (run_gp h))

def rc_slices_IndexFunc_api_Access_api_Access : RC :=
 (.seq
 (.reg false [0, 1] [
 ⟨some 4, none, (.mov (.c (.int .i64 0)))⟩])
 (.seq
 (.seq
 (.reg false [0, 1, 7, 8] [
 ⟨some 6, none, (.mov (.t 0))⟩, ⟨some 7, none, (.len false (.t 6))⟩, ⟨some 8, none, (.mov (.c (.int .i64 0)))⟩])
 (.block 0
 (.loop
 (.seq
 (.reg false [0, 1, 7, 8, 9] [
 ⟨some 9, none, (.bin .lss (.t 8) (.t 7))⟩])
 (.seq
 (.cond (.t 9)
 .skip
 (.exit 0))
 (.seq
 (.block 1
 (.seq
 (.reg false [0, 1, 5, 7, 8] [
 ⟨some 10, none, (.mov (.t 8))⟩, ⟨some 5, none, (.mov (.t 10))⟩])
 (.seq
 (.reg false [0, 1, 5, 7, 8, 16] [
 ⟨some 11, none, (.mov (.t 1))⟩, ⟨some 12, none, (.mov (.t 0))⟩, ⟨some 13, none, (.mov (.t 5))⟩, ⟨some 14, none, (.idx 3 (.t 12) (.t 13))⟩, ⟨some 15, none, (.load true 3 (.t 14))⟩, ⟨some 16, none, (.callv (.t 11) [(.t 15)])⟩])
 (.cond (.t 16)
 (.seq
 (.reg false [4] [
 ⟨some 17, none, (.mov (.t 5))⟩, ⟨some 4, none, (.mov (.t 17))⟩])
 .ret)
 .skip))))
 (.reg false [0, 1, 7, 8] [
 ⟨some 18, none, (.bin .add (.t 8) (.c (.int .i64 1)))⟩, ⟨some 8, none, (.mov (.t 18))⟩])))))))
 (.seq
 (.reg false [4] [
 ⟨some 4, none, (.mov (.c (.int .i64 (-1))))⟩])
 .ret)))
theorem op_slices_IndexFunc_api_Access_api_Access {vals : List AV} {bs : List Box} {Q : AV → List Box → Prop} (hn : vals.length ≤ 19) (h : (⟨params 0 vals, bs, bs.length⟩ : St).fo true fun s => rc_slices_IndexFunc_api_Access_api_Access.gp Try.prog true s (retP [.slot 4] Q)) : AM.Sem Try.prog 94 vals bs Q :=
  Sem.nrm (Sem.of (fn := Try.f94) (keeps := [(0, [0, 1]), (1, [0, 1, 7, 8]), (2, [0, 1, 7, 8, 9]), (3, [0, 1, 5, 7, 8]), (4, [0, 1, 5, 7, 8, 16]), (5, [4]), (6, [0, 1, 7, 8]), (7, [4])]) (solo := []) Try.func94 rfl (by kernel_rfl) (by kernel_rfl) (by kernel_rfl) hn (run_gp h))

def rc_occur_Heads : RC :=
 (.seq
 (.reg false [1] [
 ⟨some 1, none, (.box (.t 0))⟩, ⟨some 2, none, (.mov (.c (.sl .full [])))⟩])
 (.seq
 (.reg false [1, 3] [
 ⟨some 4, none, (.load true 6 (.t 1))⟩, ⟨some 5, none, (.call (.c (.fn (.func 89) [] [])) [(.t 4)])⟩, ⟨some 6, none, (.mk 2 (.agg [(.str ⟨⟨[]⟩⟩), (.sl .full [])]) (.c (.int .i64 0)) (.t 5))⟩, ⟨some 3, none, (.mov (.t 6))⟩])
 (.seq
 (.reg false [1, 3] [
 ⟨some 7, none, (.mov (.t 3))⟩, ⟨some 8, none, (.fptr 1 (.t 1))⟩, ⟨some 9, none, (.load false 1 (.t 8))⟩, ⟨some 10, none, (.append 2 (.t 7) (.t 9))⟩, ⟨some 3, none, (.mov (.t 10))⟩])
 (.seq
 (.reg false [2] [
 ⟨some 11, none, (.mov (.t 3))⟩, ⟨some 12, none, (.fptr 2 (.t 1))⟩, ⟨some 13, none, (.load false 1 (.t 12))⟩, ⟨some 14, none, (.append 2 (.t 11) (.t 13))⟩, ⟨some 2, none, (.mov (.t 14))⟩])
 .ret))))
theorem op_occur_Heads {vals : List AV} {bs : List Box} {Q : AV → List Box → Prop} (hn : vals.length ≤ 15) (h : (⟨params 0 vals, bs, bs.length⟩ : St).fo true fun s => rc_occur_Heads.gp Try.prog true s (retP [.slot 2] Q)) : AM.Sem Try.prog 54 vals bs Q :=
  Sem.nrm (Sem.of (fn := Try.f54) (keeps := [(0, [1]), (1, [1, 3]), (2, [1, 3]), (3, [2])]) (solo := []) Try.func54 rfl (by kernel_rfl) (by kernel_rfl) (by kernel_rfl) hn (run_gp h))

def rc_occur_count : RC :=
 (.seq
 (.reg false [1] [
 ⟨some 1, none, (.box (.t 0))⟩, ⟨some 2, none, (.mov (.c (.int .i64 0)))⟩])
 (.seq
 (.reg false [2] [
 ⟨some 3, none, (.fptr 1 (.t 1))⟩, ⟨some 4, none, (.load false 1 (.t 3))⟩, ⟨some 5, none, (.len false (.t 4))⟩, ⟨some 6, none, (.fptr 2 (.t 1))⟩, ⟨some 7, none, (.load false 1 (.t 6))⟩, ⟨some 8, none, (.len false (.t 7))⟩, ⟨some 9, none, (.bin .add (.t 5) (.t 8))⟩, ⟨some 2, none, (.mov (.t 9))⟩])
 .ret))
theorem op_occur_count {vals : List AV} {bs : List Box} {Q : AV → List Box → Prop} (hn : vals.length ≤ 10) (h : (⟨params 0 vals, bs, bs.length⟩ : St).fo true fun s => rc_occur_count.gp Try.prog true s (retP [.slot 2] Q)) : AM.Sem Try.prog 89 vals bs Q :=
  Sem.nrm (Sem.of (fn := Try.f89) (keeps := [(0, [1]), (1, [2])]) (solo := []) Try.func89 rfl (by kernel_rfl) (by kernel_rfl) (by kernel_rfl) hn (run_gp h))

def rc_constraintref16_Heads : RC :=
 (.seq
 (.reg false [1] [
 ⟨some 1, none, (.box (.t 0))⟩, ⟨some 2, none, (.mov (.c (.sl .full [])))⟩])
 (.seq
 (.reg false [1, 3] [
 ⟨some 3, none, (.mov (.c (.sl .full [])))⟩])
 (.seq
 (.reg false [1, 3] [
 ⟨some 4, none, (.mov (.t 3))⟩, ⟨some 5, none, (.fptr 1 (.t 1))⟩, ⟨some 6, none, (.load false 1 (.t 5))⟩, ⟨some 7, none, (.append 2 (.t 4) (.t 6))⟩, ⟨some 3, none, (.mov (.t 7))⟩])
 (.seq
 (.reg false [2] [
 ⟨some 8, none, (.mov (.t 3))⟩, ⟨some 9, none, (.fptr 2 (.t 1))⟩, ⟨some 10, none, (.load false 1 (.t 9))⟩, ⟨some 11, none, (.append 2 (.t 8) (.t 10))⟩, ⟨some 2, none, (.mov (.t 11))⟩])
 .ret))))
theorem op_constraintref16_Heads {vals : List AV} {bs : List Box} {Q : AV → List Box → Prop} (hn : vals.length ≤ 12) (h : (⟨params 0 vals, bs, bs.length⟩ : St).fo true fun s => rc_constraintref16_Heads.gp Try.prog true s (retP [.slot 2] Q)) : AM.Sem Try.prog 59 vals bs Q :=
  Sem.nrm (Sem.of (fn := Try.f59) (keeps := [(0, [1]), (1, [1, 3]), (2, [1, 3]), (3, [2])]) (solo := []) Try.func59 rfl (by kernel_rfl) (by kernel_rfl) (by kernel_rfl) hn (run_gp h))

def rc_constraintref30_Known : RC :=
 (.seq
 (.reg false [1, 2, 3] [
 ⟨some 3, none, (.box (.t 0))⟩, ⟨some 6, none, (.mov (.c (.sl .full [])))⟩])
 (.seq
 (.reg false [1, 2, 7] [
 ⟨some 13, none, (.load true 6 (.t 3))⟩, ⟨some 14, none, (.call (.c (.fn (.func 59) [] [])) [(.t 13)])⟩, ⟨some 7, none, (.mov (.t 14))⟩])
 (.seq
 (.seq
 (.reg false [1, 2, 7, 22] [
 ⟨some 15, none, (.mov (.t 2))⟩, ⟨some 16, none, (.bin .lss (.t 15) (.c (.int .i64 0)))⟩, ⟨some 17, none, (.mov (.t 16))⟩, ⟨some 18, some (17, false), (.mov (.t 2))⟩, ⟨some 19, some (17, false), (.mov (.t 7))⟩, ⟨some 20, some (17, false), (.len false (.t 19))⟩, ⟨some 21, some (17, false), (.bin .geq (.t 18) (.t 20))⟩, ⟨some 22, none, (.pick (.t 17) (.c (.bool true)) (.t 21))⟩])
 (.cond (.t 22)
 (.seq
 (.reg false [6] [
 ⟨some 6, none, (.mov (.c (.sl .full [])))⟩])
 .ret)
 .skip))
 (.seq
 (.reg false [1, 2, 7, 8] [
 ⟨some 8, none, (.mov (.c (.sl .full [])))⟩])
 (.seq
 (.seq
 (.reg false [1, 2, 7, 8, 9] [
 ⟨some 9, none, (.mov (.c (.int .i64 0)))⟩])
 (.block 0
 (.loop
 (.seq
 (.seq
 (.reg false [1, 2, 7, 8, 9, 26] [
 ⟨some 23, none, (.mov (.t 9))⟩, ⟨some 24, none, (.mov (.t 1))⟩, ⟨some 25, none, (.len false (.t 24))⟩, ⟨some 26, none, (.bin .lss (.t 23) (.t 25))⟩])
 (.cond (.t 26)
 .skip
 (.exit 0)))
 (.seq
 (.block 1
 (.seq
 (.reg false [1, 2, 7, 8, 9, 42] [
 ⟨some 29, none, (.mov (.t 1))⟩, ⟨some 30, none, (.mov (.t 9))⟩, ⟨some 31, none, (.idx 1 (.t 29) (.t 30))⟩, ⟨some 32, none, (.load false 1 (.t 31))⟩, ⟨some 33, none, (.bin .geq (.t 32) (.c (.int .i64 0)))⟩, ⟨some 34, none, (.mov (.t 33))⟩, ⟨some 35, some (34, true), (.mov (.t 1))⟩, ⟨some 36, some (34, true), (.mov (.t 9))⟩, ⟨some 37, some (34, true), (.idx 1 (.t 35) (.t 36))⟩, ⟨some 38, some (34, true), (.load false 1 (.t 37))⟩, ⟨some 39, some (34, true), (.mov (.t 7))⟩, ⟨some 40, some (34, true), (.len false (.t 39))⟩, ⟨some 41, some (34, true), (.bin .lss (.t 38) (.t 40))⟩, ⟨some 42, none, (.pick (.t 34) (.t 41) (.c (.bool false)))⟩])
 (.cond (.t 42)
 (.reg false [1, 2, 7, 8, 9] [
 ⟨some 43, none, (.mov (.t 8))⟩, ⟨some 44, none, (.mov (.t 7))⟩, ⟨some 45, none, (.mov (.t 1))⟩, ⟨some 46, none, (.mov (.t 9))⟩, ⟨some 47, none, (.idx 1 (.t 45) (.t 46))⟩, ⟨some 48, none, (.load false 1 (.t 47))⟩, ⟨some 49, none, (.idx 2 (.t 44) (.t 48))⟩, ⟨some 50, none, (.fptr 1 (.t 49))⟩, ⟨some 51, none, (.load false 1 (.t 50))⟩, ⟨some 52, none, (.append 4 (.t 43) (.t 51))⟩, ⟨some 8, none, (.mov (.t 52))⟩])
 .skip)))
 (.reg false [1, 2, 7, 8, 9] [
 ⟨some 27, none, (.mov (.t 9))⟩, ⟨some 28, none, (.bin .add (.t 27) (.c (.int .i64 1)))⟩, ⟨some 9, none, (.mov (.t 28))⟩]))))))
 (.seq
 (.reg false [2, 7, 10] [
 ⟨some 53, none, (.mov (.t 8))⟩, ⟨some 54, none, (.call (.c (.fn (.func 60) [] [])) [(.t 53)])⟩, ⟨some 10, none, (.mov (.t 54))⟩])
 (.seq
 (.reg false [2, 7, 10, 11] [
 ⟨some 11, none, (.mov (.c (.sl .full [])))⟩])
 (.seq
 (.seq
 (.reg false [2, 7, 10, 11, 12] [
 ⟨some 12, none, (.mov (.c (.int .i64 0)))⟩])
 (.block 2
 (.loop
 (.seq
 (.seq
 (.reg false [2, 7, 10, 11, 12, 62] [
 ⟨some 55, none, (.mov (.t 12))⟩, ⟨some 56, none, (.mov (.t 7))⟩, ⟨some 57, none, (.mov (.t 2))⟩, ⟨some 58, none, (.idx 2 (.t 56) (.t 57))⟩, ⟨some 59, none, (.fptr 1 (.t 58))⟩, ⟨some 60, none, (.load false 1 (.t 59))⟩, ⟨some 61, none, (.len false (.t 60))⟩, ⟨some 62, none, (.bin .lss (.t 55) (.t 61))⟩])
 (.cond (.t 62)
 .skip
 (.exit 2)))
 (.seq
 (.block 3
 (.seq
 (.reg false [2, 7, 10, 11, 12, 75] [
 ⟨some 65, none, (.mov (.t 10))⟩, ⟨some 66, none, (.mov (.t 7))⟩, ⟨some 67, none, (.mov (.t 2))⟩, ⟨some 68, none, (.idx 2 (.t 66) (.t 67))⟩, ⟨some 69, none, (.fptr 1 (.t 68))⟩, ⟨some 70, none, (.load false 1 (.t 69))⟩, ⟨some 71, none, (.mov (.t 12))⟩, ⟨some 72, none, (.idx 4 (.t 70) (.t 71))⟩, ⟨some 73, none, (.load true 4 (.t 72))⟩, ⟨some 74, none, (.call (.c (.fn (.func 62) [] [])) [(.t 73)])⟩, ⟨some 75, none, (.call (.c (.fn (.func 61) [] [])) [(.t 65), (.t 74)])⟩])
 (.cond (.t 75)
 (.reg false [2, 7, 10, 11, 12] [
 ⟨some 76, none, (.mov (.t 11))⟩, ⟨some 77, none, (.mov (.t 12))⟩, ⟨some 78, none, (.bslice 1 [(.t 77)])⟩, ⟨some 79, none, (.append 1 (.t 76) (.t 78))⟩, ⟨some 11, none, (.mov (.t 79))⟩])
 .skip)))
 (.reg false [2, 7, 10, 11, 12] [
 ⟨some 63, none, (.mov (.t 12))⟩, ⟨some 64, none, (.bin .add (.t 63) (.c (.int .i64 1)))⟩, ⟨some 12, none, (.mov (.t 64))⟩]))))))
 (.seq
 (.reg false [6] [
 ⟨some 80, none, (.mov (.t 11))⟩, ⟨some 6, none, (.mov (.t 80))⟩])
 .ret)))))))))
theorem op_constraintref30_Known {vals : List AV} {bs : List Box} {Q : AV → List Box → Prop} (hn : vals.length ≤ 81) (h : (⟨params 0 vals, bs, bs.length⟩ : St).fo true fun s => rc_constraintref30_Known.gp Try.prog true s (retP [.slot 6] Q)) : AM.Sem Try.prog 17 vals bs Q :=
  Sem.nrm (Sem.of (fn := Try.f17) (keeps := [(0, [1, 2, 3]), (1, [1, 2, 7]), (2, [1, 2, 7, 22]), (3, [6]), (4, [1, 2, 7, 8]), (5, [1, 2, 7, 8, 9]), (6, [1, 2, 7, 8, 9, 26]), (8, [1, 2, 7, 8, 9, 42]), (9, [1, 2, 7, 8, 9]), (7, [1, 2, 7, 8, 9]), (10, [2, 7, 10]), (11, [2, 7, 10, 11]), (12, [2, 7, 10, 11, 12]), (13, [2, 7, 10, 11, 12, 62]), (15, [2, 7, 10, 11, 12, 75]), (16, [2, 7, 10, 11, 12]), (14, [2, 7, 10, 11, 12]), (17, [6])]) (solo := []) Try.func17 rfl (by kernel_rfl) (by kernel_rfl) (by kernel_rfl) hn (run_gp h))

def rc_constraintref30_all : RC :=
 (.seq
 (.reg false [0, 1] [
 ⟨some 4, none, (.mov (.c (.bool false)))⟩])
 (.seq
 (.seq
 (.reg false [0, 1, 5] [
 ⟨some 5, none, (.mov (.c (.int .i64 0)))⟩])
 (.block 0
 (.loop
 (.seq
 (.seq
 (.reg false [0, 1, 5, 11] [
 ⟨some 8, none, (.mov (.t 5))⟩, ⟨some 9, none, (.mov (.t 1))⟩, ⟨some 10, none, (.len false (.t 9))⟩, ⟨some 11, none, (.bin .lss (.t 8) (.t 10))⟩])
 (.cond (.t 11)
 .skip
 (.exit 0)))
 (.seq
 (.block 1
 (.seq
 (.reg false [0, 1, 5, 6] [
 ⟨some 6, none, (.mov (.c (.bool false)))⟩])
 (.seq
 (.seq
 (.reg false [0, 1, 5, 6, 7] [
 ⟨some 7, none, (.mov (.c (.int .i64 0)))⟩])
 (.block 2
 (.loop
 (.seq
 (.seq
 (.reg false [0, 1, 5, 6, 7, 17] [
 ⟨some 14, none, (.mov (.t 7))⟩, ⟨some 15, none, (.mov (.t 0))⟩, ⟨some 16, none, (.len false (.t 15))⟩, ⟨some 17, none, (.bin .lss (.t 14) (.t 16))⟩])
 (.cond (.t 17)
 .skip
 (.exit 2)))
 (.seq
 (.block 3
 (.reg true [0, 1, 5, 6, 7] [
 ⟨some 20, none, (.take 6)⟩, ⟨some 21, none, (.take 20)⟩, ⟨some 22, some (21, false), (.take 0)⟩, ⟨some 23, some (21, false), (.take 7)⟩, ⟨some 24, some (21, false), (.idx 1 (.t 22) (.t 23))⟩, ⟨some 25, some (21, false), (.load false 1 (.t 24))⟩, ⟨some 26, some (21, false), (.take 1)⟩, ⟨some 27, some (21, false), (.take 5)⟩, ⟨some 28, some (21, false), (.idx 1 (.t 26) (.t 27))⟩, ⟨some 29, some (21, false), (.load false 1 (.t 28))⟩, ⟨some 30, some (21, false), (.bin .eql (.t 25) (.t 29))⟩, ⟨some 31, none, (.pick (.t 21) (.c (.bool true)) (.t 30))⟩, ⟨some 6, none, (.take 31)⟩]))
 (.reg false [0, 1, 5, 6, 7] [
 ⟨some 18, none, (.mov (.t 7))⟩, ⟨some 19, none, (.bin .add (.t 18) (.c (.int .i64 1)))⟩, ⟨some 7, none, (.mov (.t 19))⟩]))))))
 (.seq
 (.reg false [0, 1, 5, 33] [
 ⟨some 32, none, (.mov (.t 6))⟩, ⟨some 33, none, (.un .not (.t 32))⟩])
 (.cond (.t 33)
 (.seq
 (.reg false [4] [
 ⟨some 4, none, (.mov (.c (.bool false)))⟩])
 .ret)
 .skip)))))
 (.reg false [0, 1, 5] [
 ⟨some 12, none, (.mov (.t 5))⟩, ⟨some 13, none, (.bin .add (.t 12) (.c (.int .i64 1)))⟩, ⟨some 5, none, (.mov (.t 13))⟩]))))))
 (.seq
 (.reg false [4] [
 ⟨some 4, none, (.mov (.c (.bool true)))⟩])
 .ret)))
theorem op_constraintref30_all {vals : List AV} {bs : List Box} {Q : AV → List Box → Prop} (hn : vals.length ≤ 34) (h : (⟨params 0 vals, bs, bs.length⟩ : St).fo true fun s => rc_constraintref30_all.gp Try.prog true s (retP [.slot 4] Q)) : AM.Sem Try.prog 61 vals bs Q :=
  Sem.nrm (Sem.of (fn := Try.f61) (keeps := [(0, [0, 1]), (1, [0, 1, 5]), (2, [0, 1, 5, 11]), (4, [0, 1, 5, 6]), (5, [0, 1, 5, 6, 7]), (6, [0, 1, 5, 6, 7, 17]), (8, [0, 1, 5, 6, 7]), (7, [0, 1, 5, 6, 7]), (9, [0, 1, 5, 33]), (10, [4]), (3, [0, 1, 5]), (11, [4])]) (solo := []) Try.func61 rfl (by kernel_rfl) (by kernel_rfl) (by kernel_rfl) hn (run_gp h))

def rc_constraintref30_head : RC :=
 (.seq
 (.reg false [2, 3, 4, 6] [
 ⟨some 3, none, (.box (.t 0))⟩, ⟨some 4, none, (.box (.t 1))⟩, ⟨some 6, none, (.box (.c (.agg [(.str ⟨⟨[]⟩⟩), (.sl .full [])])))⟩, ⟨some 7, none, (.mov (.c (.sl .full [])))⟩, ⟨some 8, none, (.mov (.c (.bool false)))⟩])
 (.seq
 (.seq
 (.reg false [2, 3, 4, 6, 34] [
 ⟨some 11, none, (.mov (.t 2))⟩, ⟨some 12, none, (.bin .lss (.t 11) (.c (.int .i64 0)))⟩, ⟨some 13, none, (.mov (.t 12))⟩, ⟨some 14, some (13, false), (.mov (.t 2))⟩, ⟨some 15, some (13, false), (.fptr 3 (.t 4))⟩, ⟨some 16, some (13, false), (.load false 1 (.t 15))⟩, ⟨some 17, some (13, false), (.len false (.t 16))⟩, ⟨some 18, some (13, false), (.bin .geq (.t 14) (.t 17))⟩, ⟨some 19, none, (.pick (.t 13) (.c (.bool true)) (.t 18))⟩, ⟨some 20, none, (.mov (.t 19))⟩, ⟨some 21, some (20, false), (.fptr 0 (.t 4))⟩, ⟨some 22, some (20, false), (.fptr 0 (.t 21))⟩, ⟨some 23, some (20, false), (.load false 1 (.t 22))⟩, ⟨some 24, some (20, false), (.bin .lss (.t 23) (.c (.int .i64 0)))⟩, ⟨some 25, none, (.pick (.t 20) (.c (.bool true)) (.t 24))⟩, ⟨some 26, none, (.mov (.t 25))⟩, ⟨some 27, some (26, false), (.fptr 0 (.t 4))⟩, ⟨some 28, some (26, false), (.fptr 0 (.t 27))⟩, ⟨some 29, some (26, false), (.load false 1 (.t 28))⟩, ⟨some 30, some (26, false), (.fptr 1 (.t 3))⟩, ⟨some 31, some (26, false), (.load false 1 (.t 30))⟩, ⟨some 32, some (26, false), (.len false (.t 31))⟩, ⟨some 33, some (26, false), (.bin .geq (.t 29) (.t 32))⟩, ⟨some 34, none, (.pick (.t 26) (.c (.bool true)) (.t 33))⟩])
 (.cond (.t 34)
 (.seq
 (.reg false [6, 7, 8] [
 ⟨some 35, none, (.build [(.str ⟨⟨[]⟩⟩), (.sl .full [])] [])⟩, ⟨none, none, (.store 2 (.t 6) (.t 35))⟩, ⟨some 7, none, (.mov (.c (.sl .full [])))⟩, ⟨some 8, none, (.mov (.c (.bool false)))⟩])
 .ret)
 .skip))
 (.seq
 (.reg false [2, 4, 6, 9] [
 ⟨some 36, none, (.fptr 1 (.t 3))⟩, ⟨some 37, none, (.load false 1 (.t 36))⟩, ⟨some 38, none, (.fptr 0 (.t 4))⟩, ⟨some 39, none, (.fptr 0 (.t 38))⟩, ⟨some 40, none, (.load false 1 (.t 39))⟩, ⟨some 41, none, (.idx 6 (.t 37) (.t 40))⟩, ⟨some 42, none, (.load true 6 (.t 41))⟩, ⟨some 43, none, (.call (.c (.fn (.func 59) [] [])) [(.t 42)])⟩, ⟨some 9, none, (.mov (.t 43))⟩])
 (.seq
 (.seq
 (.reg false [2, 4, 6, 9, 59] [
 ⟨some 44, none, (.fptr 3 (.t 4))⟩, ⟨some 45, none, (.load false 1 (.t 44))⟩, ⟨some 46, none, (.mov (.t 2))⟩, ⟨some 47, none, (.idx 1 (.t 45) (.t 46))⟩, ⟨some 48, none, (.load false 1 (.t 47))⟩, ⟨some 49, none, (.bin .lss (.t 48) (.c (.int .i64 0)))⟩, ⟨some 50, none, (.mov (.t 49))⟩, ⟨some 51, some (50, false), (.fptr 3 (.t 4))⟩, ⟨some 52, some (50, false), (.load false 1 (.t 51))⟩, ⟨some 53, some (50, false), (.mov (.t 2))⟩, ⟨some 54, some (50, false), (.idx 1 (.t 52) (.t 53))⟩, ⟨some 55, some (50, false), (.load false 1 (.t 54))⟩, ⟨some 56, some (50, false), (.mov (.t 9))⟩, ⟨some 57, some (50, false), (.len false (.t 56))⟩, ⟨some 58, some (50, false), (.bin .geq (.t 55) (.t 57))⟩, ⟨some 59, none, (.pick (.t 50) (.c (.bool true)) (.t 58))⟩])
 (.cond (.t 59)
 (.seq
 (.reg false [6, 7, 8] [
 ⟨some 60, none, (.build [(.str ⟨⟨[]⟩⟩), (.sl .full [])] [])⟩, ⟨none, none, (.store 2 (.t 6) (.t 60))⟩, ⟨some 7, none, (.mov (.c (.sl .full [])))⟩, ⟨some 8, none, (.mov (.c (.bool false)))⟩])
 .ret)
 .skip))
 (.seq
 (.reg false [2, 4, 6, 9, 10] [
 ⟨some 10, none, (.mov (.c (.sl .full [])))⟩])
 (.seq
 (.seq
 (.reg false [2, 4, 6, 9, 10, 65] [
 ⟨some 61, none, (.mov (.t 2))⟩, ⟨some 62, none, (.fptr 4 (.t 4))⟩, ⟨some 63, none, (.load false 1 (.t 62))⟩, ⟨some 64, none, (.len false (.t 63))⟩, ⟨some 65, none, (.bin .lss (.t 61) (.t 64))⟩])
 (.cond (.t 65)
 (.reg false [2, 4, 6, 9, 10] [
 ⟨some 66, none, (.fptr 4 (.t 4))⟩, ⟨some 67, none, (.load false 1 (.t 66))⟩, ⟨some 68, none, (.mov (.t 2))⟩, ⟨some 69, none, (.idx 1 (.t 67) (.t 68))⟩, ⟨some 70, none, (.load false 1 (.t 69))⟩, ⟨some 10, none, (.mov (.t 70))⟩])
 .skip))
 (.seq
 (.reg false [6, 7, 8] [
 ⟨some 71, none, (.mov (.t 9))⟩, ⟨some 72, none, (.fptr 3 (.t 4))⟩, ⟨some 73, none, (.load false 1 (.t 72))⟩, ⟨some 74, none, (.mov (.t 2))⟩, ⟨some 75, none, (.idx 1 (.t 73) (.t 74))⟩, ⟨some 76, none, (.load false 1 (.t 75))⟩, ⟨some 77, none, (.idx 2 (.t 71) (.t 76))⟩, ⟨some 78, none, (.load true 2 (.t 77))⟩, ⟨some 79, none, (.mov (.t 10))⟩, ⟨none, none, (.store 2 (.t 6) (.t 78))⟩, ⟨some 7, none, (.mov (.t 79))⟩, ⟨some 8, none, (.mov (.c (.bool true)))⟩])
 .ret)))))))
theorem op_constraintref30_head {vals : List AV} {bs : List Box} {Q : AV → List Box → Prop} (hn : vals.length ≤ 80) (h : (⟨params 0 vals, bs, bs.length⟩ : St).fo true fun s => rc_constraintref30_head.gp Try.prog true s (retP [.cell 6 true 2, .slot 7, .slot 8] Q)) : AM.Sem Try.prog 69 vals bs Q :=
  Sem.nrm (Sem.of (fn := Try.f69) (keeps := [(0, [2, 3, 4, 6]), (1, [2, 3, 4, 6, 34]), (2, [6, 7, 8]), (3, [2, 4, 6, 9]), (4, [2, 4, 6, 9, 59]), (5, [6, 7, 8]), (6, [2, 4, 6, 9, 10]), (7, [2, 4, 6, 9, 10, 65]), (8, [2, 4, 6, 9, 10]), (9, [6, 7, 8])]) (solo := []) Try.func69 rfl (by kernel_rfl) (by kernel_rfl) (by kernel_rfl) hn (run_gp h))

def rc_constraintref30_Same : RC :=
 (.seq
 (.reg false [2, 3] [
 ⟨some 2, none, (.box (.t 0))⟩, ⟨some 3, none, (.box (.t 1))⟩, ⟨some 4, none, (.mov (.c (.bool false)))⟩])
 (.seq
 (.reg false [4] [
 ⟨some 5, none, (.fptr 0 (.t 2))⟩, ⟨some 6, none, (.load false 1 (.t 5))⟩, ⟨some 7, none, (.fptr 0 (.t 3))⟩, ⟨some 8, none, (.load false 1 (.t 7))⟩, ⟨some 9, none, (.bin .eql (.t 6) (.t 8))⟩, ⟨some 10, none, (.mov (.t 9))⟩, ⟨some 11, some (10, true), (.fptr 1 (.t 2))⟩, ⟨some 12, some (10, true), (.load false 1 (.t 11))⟩, ⟨some 13, some (10, true), (.fptr 1 (.t 3))⟩, ⟨some 14, some (10, true), (.load false 1 (.t 13))⟩, ⟨some 15, some (10, true), (.bin .eql (.t 12) (.t 14))⟩, ⟨some 16, none, (.pick (.t 10) (.t 15) (.c (.bool false)))⟩, ⟨some 17, none, (.mov (.t 16))⟩, ⟨some 18, some (17, true), (.fptr 2 (.t 2))⟩, ⟨some 19, some (17, true), (.load false 1 (.t 18))⟩, ⟨some 20, some (17, true), (.fptr 2 (.t 3))⟩, ⟨some 21, some (17, true), (.load false 1 (.t 20))⟩, ⟨some 22, some (17, true), (.call (.c (.fn (.func 16) [] [])) [(.t 19), (.t 21)])⟩, ⟨some 23, none, (.pick (.t 17) (.t 22) (.c (.bool false)))⟩, ⟨some 4, none, (.mov (.t 23))⟩])
 .ret))
theorem op_constraintref30_Same {vals : List AV} {bs : List Box} {Q : AV → List Box → Prop} (hn : vals.length ≤ 24) (h : (⟨params 0 vals, bs, bs.length⟩ : St).fo true fun s => rc_constraintref30_Same.gp Try.prog true s (retP [.slot 4] Q)) : AM.Sem Try.prog 68 vals bs Q :=
  Sem.nrm (Sem.of (fn := Try.f68) (keeps := [(0, [2, 3]), (1, [4])]) (solo := []) Try.func68 rfl (by kernel_rfl) (by kernel_rfl) (by kernel_rfl) hn (run_gp h))

def rc_constraintref30_SameAll : RC :=
 (.seq
 (.reg false [0, 1] [
 ⟨some 4, none, (.mov (.c (.bool false)))⟩])
 (.seq
 (.seq
 (.reg false [0, 1, 10] [
 ⟨some 6, none, (.mov (.t 0))⟩, ⟨some 7, none, (.len false (.t 6))⟩, ⟨some 8, none, (.mov (.t 1))⟩, ⟨some 9, none, (.len false (.t 8))⟩, ⟨some 10, none, (.bin .neq (.t 7) (.t 9))⟩])
 (.cond (.t 10)
 (.seq
 (.reg false [4] [
 ⟨some 4, none, (.mov (.c (.bool false)))⟩])
 .ret)
 .skip))
 (.seq
 (.seq
 (.reg false [0, 1, 5] [
 ⟨some 5, none, (.mov (.c (.int .i64 0)))⟩])
 (.block 0
 (.loop
 (.seq
 (.seq
 (.reg false [0, 1, 5, 20] [
 ⟨some 11, none, (.mov (.t 5))⟩, ⟨some 12, none, (.mov (.t 0))⟩, ⟨some 13, none, (.len false (.t 12))⟩, ⟨some 14, none, (.bin .lss (.t 11) (.t 13))⟩, ⟨some 15, none, (.mov (.t 14))⟩, ⟨some 16, some (15, true), (.mov (.t 5))⟩, ⟨some 17, some (15, true), (.mov (.t 1))⟩, ⟨some 18, some (15, true), (.len false (.t 17))⟩, ⟨some 19, some (15, true), (.bin .lss (.t 16) (.t 18))⟩, ⟨some 20, none, (.pick (.t 15) (.t 19) (.c (.bool false)))⟩])
 (.cond (.t 20)
 .skip
 (.exit 0)))
 (.seq
 (.block 1
 (.seq
 (.reg true [0, 1, 5, 32] [
 ⟨some 23, none, (.mov (.t 0))⟩, ⟨some 24, none, (.mov (.t 5))⟩, ⟨some 25, none, (.idx 3 (.t 23) (.t 24))⟩, ⟨some 26, none, (.load true 3 (.t 25))⟩, ⟨some 27, none, (.mov (.t 1))⟩, ⟨some 28, none, (.mov (.t 5))⟩, ⟨some 29, none, (.idx 3 (.t 27) (.t 28))⟩, ⟨some 30, none, (.load true 3 (.t 29))⟩, ⟨some 31, none, (.call (.c (.fn (.func 68) [] [])) [(.t 26), (.t 30)])⟩, ⟨some 32, none, (.un .not (.t 31))⟩])
 (.cond (.t 32)
 (.seq
 (.reg false [4] [
 ⟨some 4, none, (.mov (.c (.bool false)))⟩])
 .ret)
 .skip)))
 (.reg false [0, 1, 5] [
 ⟨some 21, none, (.mov (.t 5))⟩, ⟨some 22, none, (.bin .add (.t 21) (.c (.int .i64 1)))⟩, ⟨some 5, none, (.mov (.t 22))⟩]))))))
 (.seq
 (.reg false [4] [
 ⟨some 4, none, (.mov (.c (.bool true)))⟩])
 .ret))))
theorem op_constraintref30_SameAll {vals : List AV} {bs : List Box} {Q : AV → List Box → Prop} (hn : vals.length ≤ 33) (h : (⟨params 0 vals, bs, bs.length⟩ : St).fo true fun s => rc_constraintref30_SameAll.gp Try.prog true s (retP [.slot 4] Q)) : AM.Sem Try.prog 20 vals bs Q :=
  Sem.nrm (Sem.of (fn := Try.f20) (keeps := [(0, [0, 1]), (1, [0, 1, 10]), (2, [4]), (3, [0, 1, 5]), (4, [0, 1, 5, 20]), (6, [0, 1, 5, 32]), (7, [4]), (5, [0, 1, 5]), (8, [4])]) (solo := []) Try.func20 rfl (by kernel_rfl) (by kernel_rfl) (by kernel_rfl) hn (run_gp h))

def rc_constraintref30_find : RC :=
 (.seq
 (.reg false [0, 3] [
 ⟨some 3, none, (.box (.t 1))⟩, ⟨some 4, none, (.mov (.c (.int .i64 0)))⟩])
 (.seq
 (.seq
 (.reg false [0, 3, 5] [
 ⟨some 5, none, (.mov (.c (.int .i64 0)))⟩])
 (.block 0
 (.loop
 (.seq
 (.seq
 (.reg false [0, 3, 5, 9] [
 ⟨some 6, none, (.mov (.t 5))⟩, ⟨some 7, none, (.mov (.t 0))⟩, ⟨some 8, none, (.len false (.t 7))⟩, ⟨some 9, none, (.bin .lss (.t 6) (.t 8))⟩])
 (.cond (.t 9)
 .skip
 (.exit 0)))
 (.seq
 (.block 1
 (.seq
 (.reg true [0, 3, 5, 17] [
 ⟨some 12, none, (.take 0)⟩, ⟨some 13, none, (.take 5)⟩, ⟨some 14, none, (.idx 3 (.t 12) (.t 13))⟩, ⟨some 15, none, (.load true 3 (.t 14))⟩, ⟨some 16, none, (.load true 3 (.t 3))⟩, ⟨some 17, none, (.call (.c (.fn (.func 68) [] [])) [(.t 15), (.t 16)])⟩])
 (.cond (.t 17)
 (.seq
 (.reg false [4] [
 ⟨some 18, none, (.mov (.t 5))⟩, ⟨some 4, none, (.mov (.t 18))⟩])
 .ret)
 .skip)))
 (.reg false [0, 3, 5] [
 ⟨some 10, none, (.mov (.t 5))⟩, ⟨some 11, none, (.bin .add (.t 10) (.c (.int .i64 1)))⟩, ⟨some 5, none, (.mov (.t 11))⟩]))))))
 (.seq
 (.reg false [4] [
 ⟨some 4, none, (.mov (.c (.int .i64 (-1))))⟩])
 .ret)))
theorem op_constraintref30_find {vals : List AV} {bs : List Box} {Q : AV → List Box → Prop} (hn : vals.length ≤ 19) (h : (⟨params 0 vals, bs, bs.length⟩ : St).fo true fun s => rc_constraintref30_find.gp Try.prog true s (retP [.slot 4] Q)) : AM.Sem Try.prog 70 vals bs Q :=
  Sem.nrm (Sem.of (fn := Try.f70) (keeps := [(0, [0, 3]), (1, [0, 3, 5]), (2, [0, 3, 5, 9]), (4, [0, 3, 5, 17]), (5, [4]), (3, [0, 3, 5]), (6, [4])]) (solo := []) Try.func70 rfl (by kernel_rfl) (by kernel_rfl) (by kernel_rfl) hn (run_gp h))

def rc_constraintref30_All : RC :=
 (.seq
 (.reg false [1, 2] [
 ⟨some 2, none, (.box (.t 0))⟩, ⟨some 4, none, (.mov (.c (.sl .full [])))⟩])
 (.seq
 (.reg false [1, 2, 5] [
 ⟨some 5, none, (.mov (.c (.sl .full [])))⟩])
 (.seq
 (.seq
 (.reg false [1, 2, 5, 6] [
 ⟨some 6, none, (.mov (.c (.int .i64 0)))⟩])
 (.block 0
 (.loop
 (.seq
 (.seq
 (.reg false [1, 2, 5, 6, 15] [
 ⟨some 12, none, (.mov (.t 6))⟩, ⟨some 13, none, (.mov (.t 1))⟩, ⟨some 14, none, (.len false (.t 13))⟩, ⟨some 15, none, (.bin .lss (.t 12) (.t 14))⟩])
 (.cond (.t 15)
 .skip
 (.exit 0)))
 (.seq
 (.block 1
 (.seq
 (.reg false [1, 2, 5, 6, 7] [
 ⟨some 7, none, (.mov (.c (.int .i64 0)))⟩])
 (.block 2
 (.loop
 (.seq
 (.seq
 (.reg false [1, 2, 5, 6, 7, 25] [
 ⟨some 18, none, (.mov (.t 7))⟩, ⟨some 19, none, (.mov (.t 1))⟩, ⟨some 20, none, (.mov (.t 6))⟩, ⟨some 21, none, (.idx 6 (.t 19) (.t 20))⟩, ⟨some 22, none, (.fptr 3 (.t 21))⟩, ⟨some 23, none, (.load false 1 (.t 22))⟩, ⟨some 24, none, (.len false (.t 23))⟩, ⟨some 25, none, (.bin .lss (.t 18) (.t 24))⟩])
 (.cond (.t 25)
 .skip
 (.exit 2)))
 (.seq
 (.block 3
 (.seq
 (.reg true [1, 2, 5, 6, 7, 8, 9, 10] [
 ⟨some 29, none, (.load true 2 (.t 2))⟩, ⟨some 30, none, (.take 1)⟩, ⟨some 31, none, (.take 6)⟩, ⟨some 32, none, (.idx 6 (.t 30) (.t 31))⟩, ⟨some 33, none, (.load true 6 (.t 32))⟩, ⟨some 34, none, (.take 7)⟩, ⟨some 35, none, (.call (.c (.fn (.func 69) [] [])) [(.t 29), (.t 33), (.t 34)])⟩, ⟨some 28, none, (.take 35)⟩, ⟨some 36, none, (.ext 0 (.t 28))⟩, ⟨some 37, none, (.ext 1 (.t 28))⟩, ⟨some 38, none, (.ext 2 (.t 28))⟩, ⟨some 8, none, (.box (.c (.agg [(.str ⟨⟨[]⟩⟩), (.sl .full [])])))⟩, ⟨none, none, (.store 2 (.t 8) (.t 36))⟩, ⟨some 9, none, (.take 37)⟩, ⟨some 10, none, (.take 38)⟩])
 (.seq
 (.reg false [1, 2, 5, 6, 7, 10, 11] [
 ⟨some 39, none, (.fptr 0 (.t 8))⟩, ⟨some 40, none, (.load false 1 (.t 39))⟩, ⟨some 41, none, (.fptr 1 (.t 8))⟩, ⟨some 42, none, (.load false 1 (.t 41))⟩, ⟨some 43, none, (.len false (.t 42))⟩, ⟨some 44, none, (.mov (.t 9))⟩, ⟨some 45, none, (.build [(.str ⟨⟨[]⟩⟩), (.int .i64 0), (.sl .full [])] [(0, 1, (.t 40)), (1, 1, (.t 43)), (2, 1, (.t 44))])⟩, ⟨some 11, none, (.box (.c (.agg [(.str ⟨⟨[]⟩⟩), (.int .i64 0), (.sl .full [])])))⟩, ⟨none, none, (.store 3 (.t 11) (.t 45))⟩])
 (.seq
 (.reg false [1, 2, 5, 6, 7, 11, 52] [
 ⟨some 46, none, (.mov (.t 10))⟩, ⟨some 47, none, (.mov (.t 46))⟩, ⟨some 48, some (47, true), (.more .see [(.t 5)])⟩, ⟨some 49, some (47, true), (.load true 3 (.t 11))⟩, ⟨some 50, some (47, true), (.call (.c (.fn (.func 70) [] [])) [(.t 48), (.t 49)])⟩, ⟨some 51, some (47, true), (.bin .lss (.t 50) (.c (.int .i64 0)))⟩, ⟨some 52, none, (.pick (.t 47) (.t 51) (.c (.bool false)))⟩])
 (.cond (.t 52)
 (.reg false [1, 2, 5, 6, 7] [
 ⟨some 53, none, (.mov (.t 5))⟩, ⟨some 54, none, (.load true 3 (.t 11))⟩, ⟨some 55, none, (.bslice 3 [(.t 54)])⟩, ⟨some 56, none, (.append 3 (.t 53) (.t 55))⟩, ⟨some 5, none, (.mov (.t 56))⟩])
 .skip)))))
 (.reg false [1, 2, 5, 6, 7] [
 ⟨some 26, none, (.mov (.t 7))⟩, ⟨some 27, none, (.bin .add (.t 26) (.c (.int .i64 1)))⟩, ⟨some 7, none, (.mov (.t 27))⟩])))))))
 (.reg false [1, 2, 5, 6] [
 ⟨some 16, none, (.mov (.t 6))⟩, ⟨some 17, none, (.bin .add (.t 16) (.c (.int .i64 1)))⟩, ⟨some 6, none, (.mov (.t 17))⟩]))))))
 (.seq
 (.reg false [4] [
 ⟨some 57, none, (.mov (.t 5))⟩, ⟨some 4, none, (.mov (.t 57))⟩])
 .ret))))
theorem op_constraintref30_All {vals : List AV} {bs : List Box} {Q : AV → List Box → Prop} (hn : vals.length ≤ 58) (h : (⟨params 0 vals, bs, bs.length⟩ : St).fo true fun s => rc_constraintref30_All.gp Try.prog true s (retP [.slot 4] Q)) : AM.Sem Try.prog 21 vals bs Q :=
  Sem.nrm (Sem.of (fn := Try.f21) (keeps := [(0, [1, 2]), (1, [1, 2, 5]), (2, [1, 2, 5, 6]), (3, [1, 2, 5, 6, 15]), (5, [1, 2, 5, 6, 7]), (6, [1, 2, 5, 6, 7, 25]), (8, [1, 2, 5, 6, 7, 8, 9, 10]), (9, [1, 2, 5, 6, 7, 10, 11]), (10, [1, 2, 5, 6, 7, 11, 52]), (11, [1, 2, 5, 6, 7]), (7, [1, 2, 5, 6, 7]), (4, [1, 2, 5, 6]), (12, [4]), (1000000, [48])]) (solo := []) Try.func21 rfl (by kernel_rfl) (by kernel_rfl) (by kernel_rfl) hn (run_gp h))

def rc_constraintref30_Pick : RC :=
 (.seq
 (.reg false [1, 3, 4, 6] [
 ⟨some 4, none, (.box (.t 0))⟩, ⟨some 6, none, (.box (.t 2))⟩, ⟨some 8, none, (.mov (.c (.int .i64 0)))⟩])
 (.seq
 (.reg false [1, 9, 10, 11] [
 ⟨some 13, none, (.load true 2 (.t 4))⟩, ⟨some 14, none, (.load true 6 (.t 6))⟩, ⟨some 15, none, (.mov (.t 3))⟩, ⟨some 16, none, (.call (.c (.fn (.func 69) [] [])) [(.t 13), (.t 14), (.t 15)])⟩, ⟨some 12, none, (.mov (.t 16))⟩, ⟨some 17, none, (.ext 0 (.t 12))⟩, ⟨some 18, none, (.ext 1 (.t 12))⟩, ⟨some 19, none, (.ext 2 (.t 12))⟩, ⟨some 9, none, (.box (.c (.agg [(.str ⟨⟨[]⟩⟩), (.sl .full [])])))⟩, ⟨none, none, (.store 2 (.t 9) (.t 17))⟩, ⟨some 10, none, (.mov (.t 18))⟩, ⟨some 11, none, (.mov (.t 19))⟩])
 (.seq
 (.seq
 (.reg false [1, 9, 10, 21] [
 ⟨some 20, none, (.mov (.t 11))⟩, ⟨some 21, none, (.un .not (.t 20))⟩])
 (.cond (.t 21)
 (.seq
 (.reg false [8] [
 ⟨some 8, none, (.mov (.c (.int .i64 (-1))))⟩])
 .ret)
 .skip))
 (.seq
 (.reg false [8] [
 ⟨some 22, none, (.mov (.t 1))⟩, ⟨some 23, none, (.fptr 0 (.t 9))⟩, ⟨some 24, none, (.load false 1 (.t 23))⟩, ⟨some 25, none, (.fptr 1 (.t 9))⟩, ⟨some 26, none, (.load false 1 (.t 25))⟩, ⟨some 27, none, (.len false (.t 26))⟩, ⟨some 28, none, (.mov (.t 10))⟩, ⟨some 29, none, (.build [(.str ⟨⟨[]⟩⟩), (.int .i64 0), (.sl .full [])] [(0, 1, (.t 24)), (1, 1, (.t 27)), (2, 1, (.t 28))])⟩, ⟨some 30, none, (.call (.c (.fn (.func 70) [] [])) [(.t 22), (.t 29)])⟩, ⟨some 8, none, (.mov (.t 30))⟩])
 .ret))))
theorem op_constraintref30_Pick {vals : List AV} {bs : List Box} {Q : AV → List Box → Prop} (hn : vals.length ≤ 31) (h : (⟨params 0 vals, bs, bs.length⟩ : St).fo true fun s => rc_constraintref30_Pick.gp Try.prog true s (retP [.slot 8] Q)) : AM.Sem Try.prog 23 vals bs Q :=
  Sem.nrm (Sem.of (fn := Try.f23) (keeps := [(0, [1, 3, 4, 6]), (1, [1, 9, 10, 11]), (2, [1, 9, 10, 21]), (3, [8]), (4, [8])]) (solo := []) Try.func23 rfl (by kernel_rfl) (by kernel_rfl) (by kernel_rfl) hn (run_gp h))

def rc_constraintref30_Key : RC :=
 (.seq
 (.reg false [2, 3, 4] [
 ⟨some 3, none, (.box (.t 0))⟩, ⟨some 4, none, (.box (.t 1))⟩, ⟨some 6, none, (.mov (.c (.sl .full [])))⟩])
 (.seq
 (.reg false [7, 8, 9] [
 ⟨some 13, none, (.load true 2 (.t 3))⟩, ⟨some 14, none, (.load true 6 (.t 4))⟩, ⟨some 15, none, (.mov (.t 2))⟩, ⟨some 16, none, (.call (.c (.fn (.func 69) [] [])) [(.t 13), (.t 14), (.t 15)])⟩, ⟨some 12, none, (.mov (.t 16))⟩, ⟨some 17, none, (.ext 0 (.t 12))⟩, ⟨some 18, none, (.ext 1 (.t 12))⟩, ⟨some 19, none, (.ext 2 (.t 12))⟩, ⟨some 7, none, (.box (.c (.agg [(.str ⟨⟨[]⟩⟩), (.sl .full [])])))⟩, ⟨none, none, (.store 2 (.t 7) (.t 17))⟩, ⟨some 8, none, (.mov (.t 18))⟩, ⟨some 9, none, (.mov (.t 19))⟩])
 (.seq
 (.reg false [7, 8, 9, 10] [
 ⟨some 10, none, (.mov (.c (.sl .full [])))⟩])
 (.seq
 (.seq
 (.reg false [7, 8, 9, 10, 11] [
 ⟨some 11, none, (.mov (.c (.int .i64 0)))⟩])
 (.block 0
 (.loop
 (.seq
 (.seq
 (.reg false [7, 8, 9, 10, 11, 26] [
 ⟨some 20, none, (.mov (.t 11))⟩, ⟨some 21, none, (.mov (.t 8))⟩, ⟨some 22, none, (.len false (.t 21))⟩, ⟨some 23, none, (.bin .lss (.t 20) (.t 22))⟩, ⟨some 24, none, (.mov (.t 23))⟩, ⟨some 25, some (24, true), (.mov (.t 9))⟩, ⟨some 26, none, (.pick (.t 24) (.t 25) (.c (.bool false)))⟩])
 (.cond (.t 26)
 .skip
 (.exit 0)))
 (.seq
 (.block 1
 (.seq
 (.reg true [7, 8, 9, 10, 11, 43] [
 ⟨some 29, none, (.take 8)⟩, ⟨some 30, none, (.take 11)⟩, ⟨some 31, none, (.idx 1 (.t 29) (.t 30))⟩, ⟨some 32, none, (.load false 1 (.t 31))⟩, ⟨some 33, none, (.bin .geq (.t 32) (.c (.int .i64 0)))⟩, ⟨some 34, none, (.take 33)⟩, ⟨some 35, some (34, true), (.take 8)⟩, ⟨some 36, some (34, true), (.take 11)⟩, ⟨some 37, some (34, true), (.idx 1 (.t 35) (.t 36))⟩, ⟨some 38, some (34, true), (.load false 1 (.t 37))⟩, ⟨some 39, some (34, true), (.fptr 1 (.t 7))⟩, ⟨some 40, some (34, true), (.load false 1 (.t 39))⟩, ⟨some 41, some (34, true), (.len false (.t 40))⟩, ⟨some 42, some (34, true), (.bin .lss (.t 38) (.t 41))⟩, ⟨some 43, none, (.pick (.t 34) (.t 42) (.c (.bool false)))⟩])
 (.cond (.t 43)
 (.reg true [7, 8, 9, 10, 11] [
 ⟨some 44, none, (.take 10)⟩, ⟨some 45, none, (.fptr 1 (.t 7))⟩, ⟨some 46, none, (.load false 1 (.t 45))⟩, ⟨some 47, none, (.take 8)⟩, ⟨some 48, none, (.take 11)⟩, ⟨some 49, none, (.idx 1 (.t 47) (.t 48))⟩, ⟨some 50, none, (.load false 1 (.t 49))⟩, ⟨some 51, none, (.idx 4 (.t 46) (.t 50))⟩, ⟨some 52, none, (.load true 4 (.t 51))⟩, ⟨some 53, none, (.bslice 4 [(.t 52)])⟩, ⟨some 54, none, (.append 4 (.t 44) (.t 53))⟩, ⟨some 10, none, (.take 54)⟩])
 .skip)))
 (.reg false [7, 8, 9, 10, 11] [
 ⟨some 27, none, (.mov (.t 11))⟩, ⟨some 28, none, (.bin .add (.t 27) (.c (.int .i64 1)))⟩, ⟨some 11, none, (.mov (.t 28))⟩]))))))
 (.seq
 (.reg false [6] [
 ⟨some 55, none, (.mov (.t 10))⟩, ⟨some 6, none, (.mov (.t 55))⟩])
 .ret)))))
theorem op_constraintref30_Key {vals : List AV} {bs : List Box} {Q : AV → List Box → Prop} (hn : vals.length ≤ 56) (h : (⟨params 0 vals, bs, bs.length⟩ : St).fo true fun s => rc_constraintref30_Key.gp Try.prog true s (retP [.slot 6] Q)) : AM.Sem Try.prog 26 vals bs Q :=
  Sem.nrm (Sem.of (fn := Try.f26) (keeps := [(0, [2, 3, 4]), (1, [7, 8, 9]), (2, [7, 8, 9, 10]), (3, [7, 8, 9, 10, 11]), (4, [7, 8, 9, 10, 11, 26]), (6, [7, 8, 9, 10, 11, 43]), (7, [7, 8, 9, 10, 11]), (5, [7, 8, 9, 10, 11]), (8, [6])]) (solo := []) Try.func26 rfl (by kernel_rfl) (by kernel_rfl) (by kernel_rfl) hn (run_gp h))

def rc_constraintlaw30_Great : RC :=
 (.seq
 (.reg false [1, 2] [
 ⟨some 2, none, (.box (.t 0))⟩, ⟨some 4, none, (.mov (.c (.bool false)))⟩])
 (.seq
 (.seq
 (.reg false [1, 2, 20] [
 ⟨some 8, none, (.load true 2 (.t 2))⟩, ⟨some 9, none, (.call (.c (.fn (.func 53) [] [])) [(.t 8), (.c (.int .i64 150))])⟩, ⟨some 10, none, (.mov (.t 9))⟩, ⟨some 11, some (10, false), (.fptr 1 (.t 2))⟩, ⟨some 12, some (10, false), (.load false 1 (.t 11))⟩, ⟨some 13, some (10, false), (.len false (.t 12))⟩, ⟨some 14, some (10, false), (.bin .gtr (.t 13) (.c (.int .i64 10)))⟩, ⟨some 15, none, (.pick (.t 10) (.c (.bool true)) (.t 14))⟩, ⟨some 16, none, (.mov (.t 15))⟩, ⟨some 17, some (16, false), (.mov (.t 1))⟩, ⟨some 18, some (16, false), (.len false (.t 17))⟩, ⟨some 19, some (16, false), (.bin .gtr (.t 18) (.c (.int .i64 30)))⟩, ⟨some 20, none, (.pick (.t 16) (.c (.bool true)) (.t 19))⟩])
 (.cond (.t 20)
 (.seq
 (.reg false [4] [
 ⟨some 4, none, (.mov (.c (.bool true)))⟩])
 .ret)
 .skip))
 (.seq
 (.seq
 (.reg false [1, 2, 5] [
 ⟨some 5, none, (.mov (.c (.int .i64 0)))⟩])
 (.block 0
 (.loop
 (.seq
 (.seq
 (.reg false [1, 2, 5, 25] [
 ⟨some 21, none, (.mov (.t 5))⟩, ⟨some 22, none, (.fptr 1 (.t 2))⟩, ⟨some 23, none, (.load false 1 (.t 22))⟩, ⟨some 24, none, (.len false (.t 23))⟩, ⟨some 25, none, (.bin .lss (.t 21) (.t 24))⟩])
 (.cond (.t 25)
 .skip
 (.exit 0)))
 (.seq
 (.block 1
 (.seq
 (.reg true [1, 2, 5, 43] [
 ⟨some 28, none, (.fptr 1 (.t 2))⟩, ⟨some 29, none, (.load false 1 (.t 28))⟩, ⟨some 30, none, (.mov (.t 5))⟩, ⟨some 31, none, (.idx 6 (.t 29) (.t 30))⟩, ⟨some 32, none, (.fptr 1 (.t 31))⟩, ⟨some 33, none, (.load false 1 (.t 32))⟩, ⟨some 34, none, (.len false (.t 33))⟩, ⟨some 35, none, (.fptr 1 (.t 2))⟩, ⟨some 36, none, (.load false 1 (.t 35))⟩, ⟨some 37, none, (.mov (.t 5))⟩, ⟨some 38, none, (.idx 6 (.t 36) (.t 37))⟩, ⟨some 39, none, (.fptr 2 (.t 38))⟩, ⟨some 40, none, (.load false 1 (.t 39))⟩, ⟨some 41, none, (.len false (.t 40))⟩, ⟨some 42, none, (.bin .add (.t 34) (.t 41))⟩, ⟨some 43, none, (.bin .gtr (.t 42) (.c (.int .i64 8)))⟩])
 (.cond (.t 43)
 (.seq
 (.reg false [4] [
 ⟨some 4, none, (.mov (.c (.bool true)))⟩])
 .ret)
 .skip)))
 (.reg false [1, 2, 5] [
 ⟨some 26, none, (.mov (.t 5))⟩, ⟨some 27, none, (.bin .add (.t 26) (.c (.int .i64 1)))⟩, ⟨some 5, none, (.mov (.t 27))⟩]))))))
 (.seq
 (.seq
 (.reg false [1, 6] [
 ⟨some 6, none, (.mov (.c (.int .i64 0)))⟩])
 (.block 2
 (.loop
 (.seq
 (.seq
 (.reg false [1, 6, 47] [
 ⟨some 44, none, (.mov (.t 6))⟩, ⟨some 45, none, (.mov (.t 1))⟩, ⟨some 46, none, (.len false (.t 45))⟩, ⟨some 47, none, (.bin .lss (.t 44) (.t 46))⟩])
 (.cond (.t 47)
 .skip
 (.exit 2)))
 (.seq
 (.block 3
 (.seq
 (.seq
 (.reg false [1, 6, 65] [
 ⟨some 50, none, (.mov (.t 1))⟩, ⟨some 51, none, (.mov (.t 6))⟩, ⟨some 52, none, (.idx 6 (.t 50) (.t 51))⟩, ⟨some 53, none, (.fptr 3 (.t 52))⟩, ⟨some 54, none, (.load false 1 (.t 53))⟩, ⟨some 55, none, (.len false (.t 54))⟩, ⟨some 56, none, (.bin .gtr (.t 55) (.c (.int .i64 8)))⟩, ⟨some 57, none, (.mov (.t 56))⟩, ⟨some 58, some (57, false), (.mov (.t 1))⟩, ⟨some 59, some (57, false), (.mov (.t 6))⟩, ⟨some 60, some (57, false), (.idx 6 (.t 58) (.t 59))⟩, ⟨some 61, some (57, false), (.fptr 4 (.t 60))⟩, ⟨some 62, some (57, false), (.load false 1 (.t 61))⟩, ⟨some 63, some (57, false), (.len false (.t 62))⟩, ⟨some 64, some (57, false), (.bin .gtr (.t 63) (.c (.int .i64 8)))⟩, ⟨some 65, none, (.pick (.t 57) (.c (.bool true)) (.t 64))⟩])
 (.cond (.t 65)
 (.seq
 (.reg false [4] [
 ⟨some 4, none, (.mov (.c (.bool true)))⟩])
 .ret)
 .skip))
 (.seq
 (.reg false [1, 6, 7] [
 ⟨some 7, none, (.mov (.c (.int .i64 0)))⟩])
 (.block 4
 (.loop
 (.seq
 (.seq
 (.reg false [1, 6, 7, 73] [
 ⟨some 66, none, (.mov (.t 7))⟩, ⟨some 67, none, (.mov (.t 1))⟩, ⟨some 68, none, (.mov (.t 6))⟩, ⟨some 69, none, (.idx 6 (.t 67) (.t 68))⟩, ⟨some 70, none, (.fptr 4 (.t 69))⟩, ⟨some 71, none, (.load false 1 (.t 70))⟩, ⟨some 72, none, (.len false (.t 71))⟩, ⟨some 73, none, (.bin .lss (.t 66) (.t 72))⟩])
 (.cond (.t 73)
 .skip
 (.exit 4)))
 (.seq
 (.block 5
 (.seq
 (.reg false [1, 6, 7, 85] [
 ⟨some 76, none, (.mov (.t 1))⟩, ⟨some 77, none, (.mov (.t 6))⟩, ⟨some 78, none, (.idx 6 (.t 76) (.t 77))⟩, ⟨some 79, none, (.fptr 4 (.t 78))⟩, ⟨some 80, none, (.load false 1 (.t 79))⟩, ⟨some 81, none, (.mov (.t 7))⟩, ⟨some 82, none, (.idx 1 (.t 80) (.t 81))⟩, ⟨some 83, none, (.load false 1 (.t 82))⟩, ⟨some 84, none, (.len false (.t 83))⟩, ⟨some 85, none, (.bin .gtr (.t 84) (.c (.int .i64 20)))⟩])
 (.cond (.t 85)
 (.seq
 (.reg false [4] [
 ⟨some 4, none, (.mov (.c (.bool true)))⟩])
 .ret)
 .skip)))
 (.reg false [1, 6, 7] [
 ⟨some 74, none, (.mov (.t 7))⟩, ⟨some 75, none, (.bin .add (.t 74) (.c (.int .i64 1)))⟩, ⟨some 7, none, (.mov (.t 75))⟩]))))))))
 (.reg false [1, 6] [
 ⟨some 48, none, (.mov (.t 6))⟩, ⟨some 49, none, (.bin .add (.t 48) (.c (.int .i64 1)))⟩, ⟨some 6, none, (.mov (.t 49))⟩]))))))
 (.seq
 (.reg false [4] [
 ⟨some 4, none, (.mov (.c (.bool false)))⟩])
 .ret)))))
theorem op_constraintlaw30_Great {vals : List AV} {bs : List Box} {Q : AV → List Box → Prop} (hn : vals.length ≤ 86) (h : (⟨params 0 vals, bs, bs.length⟩ : St).fo true fun s => rc_constraintlaw30_Great.gp Try.prog true s (retP [.slot 4] Q)) : AM.Sem Try.prog 14 vals bs Q :=
  Sem.nrm (Sem.of (fn := Try.f14) (keeps := [(0, [1, 2]), (1, [1, 2, 20]), (2, [4]), (3, [1, 2, 5]), (4, [1, 2, 5, 25]), (6, [1, 2, 5, 43]), (7, [4]), (5, [1, 2, 5]), (8, [1, 6]), (9, [1, 6, 47]), (11, [1, 6, 65]), (12, [4]), (13, [1, 6, 7]), (14, [1, 6, 7, 73]), (16, [1, 6, 7, 85]), (17, [4]), (15, [1, 6, 7]), (10, [1, 6]), (18, [4])]) (solo := []) Try.func14 rfl (by kernel_rfl) (by kernel_rfl) (by kernel_rfl) hn (run_gp h))

def rc_constraintlaw30_rule : RC :=
 (.seq
 (.reg false [0] [
 ⟨some 0, none, (.box (.c (.agg [(.str ⟨⟨[]⟩⟩), (.sl .full []), (.sl .full []), (.sl .full []), (.sl .full []), (.int .i64 0)])))⟩])
 (.seq
 (.reg false [0] [
 ⟨some 1, none, (.call (.c (.fn (.func 64) [] [])) [(.c (.int .i64 0))])⟩, ⟨some 2, none, (.call (.c (.fn (.func 64) [] [])) [(.c (.int .i64 1))])⟩, ⟨some 3, none, (.bslice 4 [(.t 1), (.t 2)])⟩, ⟨some 4, none, (.build [(.str ⟨⟨[]⟩⟩), (.sl .full [])] [(0, 1, (.c (.str ⟨⟨[112]⟩⟩))), (1, 1, (.t 3))])⟩, ⟨some 5, none, (.call (.c (.fn (.func 64) [] [])) [(.c (.int .i64 1))])⟩, ⟨some 6, none, (.call (.c (.fn (.func 65) [] [])) [(.c (.int .i64 3))])⟩, ⟨some 7, none, (.call (.c (.fn (.func 64) [] [])) [(.c (.int .i64 2))])⟩, ⟨some 8, none, (.bslice 4 [(.t 5), (.t 6), (.t 7)])⟩, ⟨some 9, none, (.build [(.str ⟨⟨[]⟩⟩), (.sl .full [])] [(0, 1, (.c (.str ⟨⟨[113]⟩⟩))), (1, 1, (.t 8))])⟩, ⟨some 10, none, (.bslice 2 [(.t 4), (.t 9)])⟩, ⟨some 11, none, (.build [(.str ⟨⟨[]⟩⟩), (.sl .full []), (.sl .full []), (.sl .full []), (.sl .full []), (.int .i64 0)] [(1, 1, (.t 10)), (5, 1, (.c (.int .i64 3)))])⟩, ⟨none, none, (.store 6 (.t 0) (.t 11))⟩])
 .ret))
theorem op_constraintlaw30_rule {vals : List AV} {bs : List Box} {Q : AV → List Box → Prop} (hn : vals.length ≤ 12) (h : (⟨params 0 vals, bs, bs.length⟩ : St).fo true fun s => rc_constraintlaw30_rule.gp Try.prog true s (retP [.cell 0 true 6] Q)) : AM.Sem Try.prog 63 vals bs Q :=
  Sem.nrm (Sem.of (fn := Try.f63) (keeps := [(0, [0]), (1, [0])]) (solo := []) Try.func63 rfl (by kernel_rfl) (by kernel_rfl) (by kernel_rfl) hn (run_gp h))

def rc_constraintlaw30_live : RC :=
 (.seq
 (.reg false [] [
 ⟨some 0, none, (.mov (.c (.bool false)))⟩])
 (.seq
 (.reg false [1] [
 ⟨some 4, none, (.call (.c (.fn (.func 63) [] [])) [])⟩, ⟨some 5, none, (.bslice 6 [(.t 4)])⟩, ⟨some 6, none, (.build [(.sl .full []), (.sl .full [])] [(1, 1, (.t 5))])⟩, ⟨some 1, none, (.box (.c (.agg [(.sl .full []), (.sl .full [])])))⟩, ⟨none, none, (.store 2 (.t 1) (.t 6))⟩])
 (.seq
 (.reg false [1, 2] [
 ⟨some 7, none, (.bslice 1 [(.c (.int .i64 1))])⟩, ⟨some 8, none, (.bslice 1 [(.c (.int .i64 0)), (.c (.int .i64 1))])⟩, ⟨some 9, none, (.bslice 1 [(.t 8)])⟩, ⟨some 10, none, (.build [(.int .i64 0), (.int .i64 0), (.bool false), (.sl .full []), (.sl .full []), (.sl .full [])] [(3, 1, (.t 7)), (4, 1, (.t 9))])⟩, ⟨some 2, none, (.box (.c (.agg [(.int .i64 0), (.int .i64 0), (.bool false), (.sl .full []), (.sl .full []), (.sl .full [])])))⟩, ⟨none, none, (.store 6 (.t 2) (.t 10))⟩])
 (.seq
 (.reg false [1, 2, 3] [
 ⟨some 11, none, (.load true 2 (.t 1))⟩, ⟨some 12, none, (.load true 6 (.t 2))⟩, ⟨some 13, none, (.load true 6 (.t 2))⟩, ⟨some 14, none, (.bslice 6 [(.t 12), (.t 13)])⟩, ⟨some 15, none, (.call (.c (.fn (.func 19) [] [])) [(.t 11), (.t 14)])⟩, ⟨some 3, none, (.mov (.t 15))⟩])
 (.seq
 (.reg false [0] [
 ⟨some 16, none, (.call (.c (.fn (.func 63) [] [])) [])⟩, ⟨some 17, none, (.bslice 1 [(.c (.int .i64 0))])⟩, ⟨some 18, none, (.call (.c (.fn (.func 15) [] [])) [(.t 16), (.t 17), (.c (.int .i64 1))])⟩, ⟨some 19, none, (.bslice 1 [(.c (.int .i64 0)), (.c (.int .i64 1))])⟩, ⟨some 20, none, (.call (.c (.fn (.func 16) [] [])) [(.t 18), (.t 19)])⟩, ⟨some 21, none, (.mov (.t 20))⟩, ⟨some 22, some (21, true), (.mov (.t 3))⟩, ⟨some 23, some (21, true), (.len false (.t 22))⟩, ⟨some 24, some (21, true), (.bin .eql (.t 23) (.c (.int .i64 1)))⟩, ⟨some 25, none, (.pick (.t 21) (.t 24) (.c (.bool false)))⟩, ⟨some 26, none, (.mov (.t 25))⟩, ⟨some 27, some (26, true), (.mov (.t 3))⟩, ⟨some 28, some (26, true), (.idx 3 (.t 27) (.c (.int .i64 0)))⟩, ⟨some 29, some (26, true), (.fptr 0 (.t 28))⟩, ⟨some 30, some (26, true), (.load false 1 (.t 29))⟩, ⟨some 31, some (26, true), (.bin .eql (.t 30) (.c (.str ⟨⟨[113]⟩⟩)))⟩, ⟨some 32, none, (.pick (.t 26) (.t 31) (.c (.bool false)))⟩, ⟨some 33, none, (.mov (.t 32))⟩, ⟨some 34, some (33, true), (.mov (.t 3))⟩, ⟨some 35, some (33, true), (.idx 3 (.t 34) (.c (.int .i64 0)))⟩, ⟨some 36, some (33, true), (.fptr 1 (.t 35))⟩, ⟨some 37, some (33, true), (.load false 1 (.t 36))⟩, ⟨some 38, some (33, true), (.bin .eql (.t 37) (.c (.int .i64 3)))⟩, ⟨some 39, none, (.pick (.t 33) (.t 38) (.c (.bool false)))⟩, ⟨some 40, none, (.mov (.t 39))⟩, ⟨some 41, some (40, true), (.load true 2 (.t 1))⟩, ⟨some 42, some (40, true), (.mov (.t 3))⟩, ⟨some 43, some (40, true), (.load true 6 (.t 2))⟩, ⟨some 44, some (40, true), (.call (.c (.fn (.func 22) [] [])) [(.t 41), (.t 42), (.t 43), (.c (.int .i64 0))])⟩, ⟨some 45, some (40, true), (.bin .eql (.t 44) (.c (.int .i64 0)))⟩, ⟨some 46, none, (.pick (.t 40) (.t 45) (.c (.bool false)))⟩, ⟨some 47, none, (.mov (.t 46))⟩, ⟨some 48, some (47, true), (.load true 2 (.t 1))⟩, ⟨some 49, some (47, true), (.mov (.t 3))⟩, ⟨some 50, some (47, true), (.load true 6 (.t 2))⟩, ⟨some 51, some (47, true), (.call (.c (.fn (.func 22) [] [])) [(.t 48), (.t 49), (.t 50), (.c (.int .i64 1))])⟩, ⟨some 52, some (47, true), (.bin .eql (.t 51) (.c (.int .i64 (-1))))⟩, ⟨some 53, none, (.pick (.t 47) (.t 52) (.c (.bool false)))⟩, ⟨some 54, none, (.mov (.t 53))⟩, ⟨some 55, some (54, true), (.load true 2 (.t 1))⟩, ⟨some 56, some (54, true), (.load true 6 (.t 2))⟩, ⟨some 57, some (54, true), (.call (.c (.fn (.func 25) [] [])) [(.t 55), (.t 56), (.c (.int .i64 0))])⟩, ⟨some 58, some (54, true), (.call (.c (.fn (.func 64) [] [])) [(.c (.int .i64 1))])⟩, ⟨some 59, some (54, true), (.call (.c (.fn (.func 65) [] [])) [(.c (.int .i64 3))])⟩, ⟨some 60, some (54, true), (.bslice 4 [(.t 58), (.t 59)])⟩, ⟨some 61, some (54, true), (.call (.c (.fn (.func 24) [] [])) [(.t 57), (.t 60)])⟩, ⟨some 62, none, (.pick (.t 54) (.t 61) (.c (.bool false)))⟩, ⟨some 0, none, (.mov (.t 62))⟩])
 .ret)))))
theorem op_constraintlaw30_live {vals : List AV} {bs : List Box} {Q : AV → List Box → Prop} (hn : vals.length ≤ 63) (h : (⟨params 0 vals, bs, bs.length⟩ : St).fo true fun s => rc_constraintlaw30_live.gp Try.prog true s (retP [.slot 0] Q)) : AM.Sem Try.prog 18 vals bs Q :=
  Sem.nrm (Sem.of (fn := Try.f18) (keeps := [(0, []), (1, [1]), (2, [1, 2]), (3, [1, 2, 3]), (4, [0])]) (solo := []) Try.func18 rfl (by kernel_rfl) (by kernel_rfl) (by kernel_rfl) hn (run_gp h))

def rc_constraintlaw30_LookupKnown : RC :=
 (.seq
 (.reg false [1, 2, 3] [
 ⟨some 3, none, (.box (.t 0))⟩, ⟨some 6, none, (.mov (.c (.bool false)))⟩])
 (.seq
 (.seq
 (.reg false [1, 2, 3, 19] [
 ⟨some 11, none, (.load true 6 (.t 3))⟩, ⟨some 12, none, (.bslice 6 [(.t 11)])⟩, ⟨some 13, none, (.build [(.sl .full []), (.sl .full [])] [(1, 1, (.t 12))])⟩, ⟨some 14, none, (.call (.c (.fn (.func 14) [] [])) [(.t 13), (.c (.sl .full []))])⟩, ⟨some 15, none, (.mov (.t 14))⟩, ⟨some 16, some (15, false), (.mov (.t 1))⟩, ⟨some 17, some (15, false), (.len false (.t 16))⟩, ⟨some 18, some (15, false), (.bin .gtr (.t 17) (.c (.int .i64 10)))⟩, ⟨some 19, none, (.pick (.t 15) (.c (.bool true)) (.t 18))⟩])
 (.cond (.t 19)
 (.seq
 (.reg false [6] [
 ⟨some 6, none, (.mov (.c (.bool true)))⟩])
 .ret)
 .skip))
 (.seq
 (.reg false [1, 2, 3, 7] [
 ⟨some 20, none, (.load true 6 (.t 3))⟩, ⟨some 21, none, (.mov (.t 1))⟩, ⟨some 22, none, (.mov (.t 2))⟩, ⟨some 23, none, (.call (.c (.fn (.func 15) [] [])) [(.t 20), (.t 21), (.t 22)])⟩, ⟨some 7, none, (.mov (.t 23))⟩])
 (.seq
 (.seq
 (.reg false [1, 2, 3, 7, 30] [
 ⟨some 24, none, (.mov (.t 7))⟩, ⟨some 25, none, (.load true 6 (.t 3))⟩, ⟨some 26, none, (.mov (.t 1))⟩, ⟨some 27, none, (.mov (.t 2))⟩, ⟨some 28, none, (.call (.c (.fn (.func 17) [] [])) [(.t 25), (.t 26), (.t 27)])⟩, ⟨some 29, none, (.call (.c (.fn (.func 16) [] [])) [(.t 24), (.t 28)])⟩, ⟨some 30, none, (.un .not (.t 29))⟩])
 (.cond (.t 30)
 (.seq
 (.reg false [6] [
 ⟨some 6, none, (.mov (.c (.bool false)))⟩])
 .ret)
 .skip))
 (.seq
 (.reg true [7, 8] [
 ⟨some 31, none, (.load true 6 (.t 3))⟩, ⟨some 32, none, (.bslice 1 [])⟩, ⟨some 33, none, (.take 1)⟩, ⟨some 34, none, (.append 1 (.t 32) (.t 33))⟩, ⟨some 35, none, (.bslice 1 [(.c (.int .i64 0)), (.c (.int .i64 1))])⟩, ⟨some 36, none, (.append 1 (.t 34) (.t 35))⟩, ⟨some 37, none, (.take 2)⟩, ⟨some 38, none, (.call (.c (.fn (.func 15) [] [])) [(.t 31), (.t 36), (.t 37)])⟩, ⟨some 8, none, (.take 38)⟩])
 (.seq
 (.reg false [7, 8, 9] [
 ⟨some 9, none, (.mov (.c (.int .i64 0)))⟩])
 (.seq
 (.seq
 (.reg false [7, 8, 9, 10] [
 ⟨some 10, none, (.mov (.c (.int .i64 0)))⟩])
 (.block 0
 (.loop
 (.seq
 (.seq
 (.reg false [7, 8, 9, 10, 48] [
 ⟨some 39, none, (.mov (.t 10))⟩, ⟨some 40, none, (.mov (.t 8))⟩, ⟨some 41, none, (.len false (.t 40))⟩, ⟨some 42, none, (.bin .lss (.t 39) (.t 41))⟩, ⟨some 43, none, (.mov (.t 42))⟩, ⟨some 44, some (43, true), (.mov (.t 9))⟩, ⟨some 45, some (43, true), (.mov (.t 7))⟩, ⟨some 46, some (43, true), (.len false (.t 45))⟩, ⟨some 47, some (43, true), (.bin .lss (.t 44) (.t 46))⟩, ⟨some 48, none, (.pick (.t 43) (.t 47) (.c (.bool false)))⟩])
 (.cond (.t 48)
 .skip
 (.exit 0)))
 (.seq
 (.block 1
 (.seq
 (.reg true [7, 8, 9, 10, 59] [
 ⟨some 51, none, (.take 8)⟩, ⟨some 52, none, (.take 10)⟩, ⟨some 53, none, (.idx 1 (.t 51) (.t 52))⟩, ⟨some 54, none, (.load false 1 (.t 53))⟩, ⟨some 55, none, (.take 7)⟩, ⟨some 56, none, (.take 9)⟩, ⟨some 57, none, (.idx 1 (.t 55) (.t 56))⟩, ⟨some 58, none, (.load false 1 (.t 57))⟩, ⟨some 59, none, (.bin .eql (.t 54) (.t 58))⟩])
 (.cond (.t 59)
 (.reg false [7, 8, 9, 10] [
 ⟨some 60, none, (.mov (.t 9))⟩, ⟨some 61, none, (.bin .add (.t 60) (.c (.int .i64 1)))⟩, ⟨some 9, none, (.mov (.t 61))⟩])
 .skip)))
 (.reg false [7, 8, 9, 10] [
 ⟨some 49, none, (.mov (.t 10))⟩, ⟨some 50, none, (.bin .add (.t 49) (.c (.int .i64 1)))⟩, ⟨some 10, none, (.mov (.t 50))⟩]))))))
 (.seq
 (.reg false [6] [
 ⟨some 62, none, (.mov (.t 9))⟩, ⟨some 63, none, (.mov (.t 7))⟩, ⟨some 64, none, (.len false (.t 63))⟩, ⟨some 65, none, (.bin .eql (.t 62) (.t 64))⟩, ⟨some 66, none, (.mov (.t 65))⟩, ⟨some 67, some (66, true), (.call (.c (.fn (.func 18) [] [])) [])⟩, ⟨some 68, none, (.pick (.t 66) (.t 67) (.c (.bool false)))⟩, ⟨some 6, none, (.mov (.t 68))⟩])
 .ret))))))))
theorem op_constraintlaw30_LookupKnown {vals : List AV} {bs : List Box} {Q : AV → List Box → Prop} (hn : vals.length ≤ 69) (h : (⟨params 0 vals, bs, bs.length⟩ : St).fo true fun s => rc_constraintlaw30_LookupKnown.gp Try.prog true s (retP [.slot 6] Q)) : AM.Sem Try.prog 3 vals bs Q :=
  Sem.nrm (Sem.of (fn := Try.f3) (keeps := [(0, [1, 2, 3]), (1, [1, 2, 3, 19]), (2, [6]), (3, [1, 2, 3, 7]), (4, [1, 2, 3, 7, 30]), (5, [6]), (6, [7, 8]), (7, [7, 8, 9]), (8, [7, 8, 9, 10]), (9, [7, 8, 9, 10, 48]), (11, [7, 8, 9, 10, 59]), (12, [7, 8, 9, 10]), (10, [7, 8, 9, 10]), (13, [6])]) (solo := []) Try.func3 rfl (by kernel_rfl) (by kernel_rfl) (by kernel_rfl) hn (run_gp h))

def rc_constraintlaw30_LookupAccess : RC :=
 (.seq
 (.reg false [1, 2, 3] [
 ⟨some 3, none, (.box (.t 0))⟩, ⟨some 6, none, (.mov (.c (.bool false)))⟩])
 (.seq
 (.seq
 (.reg false [1, 2, 3, 12] [
 ⟨some 10, none, (.load true 2 (.t 3))⟩, ⟨some 11, none, (.mov (.t 1))⟩, ⟨some 12, none, (.call (.c (.fn (.func 14) [] [])) [(.t 10), (.t 11)])⟩])
 (.cond (.t 12)
 (.seq
 (.reg false [6] [
 ⟨some 6, none, (.mov (.c (.bool true)))⟩])
 .ret)
 .skip))
 (.seq
 (.reg false [1, 2, 3, 7] [
 ⟨some 13, none, (.load true 2 (.t 3))⟩, ⟨some 14, none, (.mov (.t 1))⟩, ⟨some 15, none, (.call (.c (.fn (.func 19) [] [])) [(.t 13), (.t 14)])⟩, ⟨some 7, none, (.mov (.t 15))⟩])
 (.seq
 (.seq
 (.reg false [1, 2, 3, 7, 21] [
 ⟨some 16, none, (.mov (.t 7))⟩, ⟨some 17, none, (.load true 2 (.t 3))⟩, ⟨some 18, none, (.mov (.t 1))⟩, ⟨some 19, none, (.call (.c (.fn (.func 21) [] [])) [(.t 17), (.t 18)])⟩, ⟨some 20, none, (.call (.c (.fn (.func 20) [] [])) [(.t 16), (.t 19)])⟩, ⟨some 21, none, (.un .not (.t 20))⟩])
 (.cond (.t 21)
 (.seq
 (.reg false [6] [
 ⟨some 6, none, (.mov (.c (.bool false)))⟩])
 .ret)
 .skip))
 (.seq
 (.seq
 (.reg false [1, 2, 3, 7, 8] [
 ⟨some 8, none, (.mov (.c (.int .i64 0)))⟩])
 (.block 0
 (.loop
 (.seq
 (.seq
 (.reg false [1, 2, 3, 7, 8, 25] [
 ⟨some 22, none, (.mov (.t 8))⟩, ⟨some 23, none, (.mov (.t 1))⟩, ⟨some 24, none, (.len false (.t 23))⟩, ⟨some 25, none, (.bin .lss (.t 22) (.t 24))⟩])
 (.cond (.t 25)
 .skip
 (.exit 0)))
 (.seq
 (.block 1
 (.seq
 (.seq
 (.reg false [1, 2, 3, 7, 8, 9] [
 ⟨some 9, none, (.mov (.c (.int .i64 0)))⟩])
 (.block 2
 (.loop
 (.seq
 (.seq
 (.reg false [1, 2, 3, 7, 8, 9, 35] [
 ⟨some 28, none, (.mov (.t 9))⟩, ⟨some 29, none, (.mov (.t 1))⟩, ⟨some 30, none, (.mov (.t 8))⟩, ⟨some 31, none, (.idx 6 (.t 29) (.t 30))⟩, ⟨some 32, none, (.fptr 3 (.t 31))⟩, ⟨some 33, none, (.load false 1 (.t 32))⟩, ⟨some 34, none, (.len false (.t 33))⟩, ⟨some 35, none, (.bin .lss (.t 28) (.t 34))⟩])
 (.cond (.t 35)
 .skip
 (.exit 2)))
 (.seq
 (.block 3
 (.seq
 (.reg true [1, 2, 3, 7, 8, 9, 72] [
 ⟨some 38, none, (.load true 2 (.t 3))⟩, ⟨some 39, none, (.mov (.t 7))⟩, ⟨some 40, none, (.mov (.t 1))⟩, ⟨some 41, none, (.mov (.t 8))⟩, ⟨some 42, none, (.idx 6 (.t 40) (.t 41))⟩, ⟨some 43, none, (.load true 6 (.t 42))⟩, ⟨some 44, none, (.mov (.t 9))⟩, ⟨some 45, none, (.call (.c (.fn (.func 22) [] [])) [(.t 38), (.t 39), (.t 43), (.t 44)])⟩, ⟨some 46, none, (.load true 2 (.t 3))⟩, ⟨some 47, none, (.mov (.t 7))⟩, ⟨some 48, none, (.mov (.t 1))⟩, ⟨some 49, none, (.mov (.t 8))⟩, ⟨some 50, none, (.idx 6 (.t 48) (.t 49))⟩, ⟨some 51, none, (.load true 6 (.t 50))⟩, ⟨some 52, none, (.mov (.t 9))⟩, ⟨some 53, none, (.call (.c (.fn (.func 23) [] [])) [(.t 46), (.t 47), (.t 51), (.t 52)])⟩, ⟨some 54, none, (.bin .neq (.t 45) (.t 53))⟩, ⟨some 55, none, (.mov (.t 54))⟩, ⟨some 56, some (55, false), (.load true 2 (.t 3))⟩, ⟨some 57, some (55, false), (.mov (.t 1))⟩, ⟨some 58, some (55, false), (.mov (.t 8))⟩, ⟨some 59, some (55, false), (.idx 6 (.t 57) (.t 58))⟩, ⟨some 60, some (55, false), (.load true 6 (.t 59))⟩, ⟨some 61, some (55, false), (.mov (.t 9))⟩, ⟨some 62, some (55, false), (.call (.c (.fn (.func 25) [] [])) [(.t 56), (.t 60), (.t 61)])⟩, ⟨some 63, some (55, false), (.load true 2 (.t 3))⟩, ⟨some 64, some (55, false), (.mov (.t 1))⟩, ⟨some 65, some (55, false), (.mov (.t 8))⟩, ⟨some 66, some (55, false), (.idx 6 (.t 64) (.t 65))⟩, ⟨some 67, some (55, false), (.load true 6 (.t 66))⟩, ⟨some 68, some (55, false), (.mov (.t 9))⟩, ⟨some 69, some (55, false), (.call (.c (.fn (.func 26) [] [])) [(.t 63), (.t 67), (.t 68)])⟩, ⟨some 70, some (55, false), (.call (.c (.fn (.func 24) [] [])) [(.t 62), (.t 69)])⟩, ⟨some 71, some (55, false), (.un .not (.t 70))⟩, ⟨some 72, none, (.pick (.t 55) (.c (.bool true)) (.t 71))⟩])
 (.cond (.t 72)
 (.seq
 (.reg false [6] [
 ⟨some 6, none, (.mov (.c (.bool false)))⟩])
 .ret)
 .skip)))
 (.reg false [1, 2, 3, 7, 8, 9] [
 ⟨some 36, none, (.mov (.t 9))⟩, ⟨some 37, none, (.bin .add (.t 36) (.c (.int .i64 1)))⟩, ⟨some 9, none, (.mov (.t 37))⟩]))))))
 (.seq
 (.reg true [1, 2, 3, 7, 8, 107] [
 ⟨some 73, none, (.load true 2 (.t 3))⟩, ⟨some 74, none, (.mov (.t 7))⟩, ⟨some 75, none, (.mov (.t 1))⟩, ⟨some 76, none, (.mov (.t 8))⟩, ⟨some 77, none, (.idx 6 (.t 75) (.t 76))⟩, ⟨some 78, none, (.load true 6 (.t 77))⟩, ⟨some 79, none, (.mov (.t 2))⟩, ⟨some 80, none, (.call (.c (.fn (.func 22) [] [])) [(.t 73), (.t 74), (.t 78), (.t 79)])⟩, ⟨some 81, none, (.load true 2 (.t 3))⟩, ⟨some 82, none, (.mov (.t 7))⟩, ⟨some 83, none, (.mov (.t 1))⟩, ⟨some 84, none, (.mov (.t 8))⟩, ⟨some 85, none, (.idx 6 (.t 83) (.t 84))⟩, ⟨some 86, none, (.load true 6 (.t 85))⟩, ⟨some 87, none, (.mov (.t 2))⟩, ⟨some 88, none, (.call (.c (.fn (.func 23) [] [])) [(.t 81), (.t 82), (.t 86), (.t 87)])⟩, ⟨some 89, none, (.bin .neq (.t 80) (.t 88))⟩, ⟨some 90, none, (.mov (.t 89))⟩, ⟨some 91, some (90, false), (.load true 2 (.t 3))⟩, ⟨some 92, some (90, false), (.mov (.t 1))⟩, ⟨some 93, some (90, false), (.mov (.t 8))⟩, ⟨some 94, some (90, false), (.idx 6 (.t 92) (.t 93))⟩, ⟨some 95, some (90, false), (.load true 6 (.t 94))⟩, ⟨some 96, some (90, false), (.mov (.t 2))⟩, ⟨some 97, some (90, false), (.call (.c (.fn (.func 25) [] [])) [(.t 91), (.t 95), (.t 96)])⟩, ⟨some 98, some (90, false), (.load true 2 (.t 3))⟩, ⟨some 99, some (90, false), (.mov (.t 1))⟩, ⟨some 100, some (90, false), (.mov (.t 8))⟩, ⟨some 101, some (90, false), (.idx 6 (.t 99) (.t 100))⟩, ⟨some 102, some (90, false), (.load true 6 (.t 101))⟩, ⟨some 103, some (90, false), (.mov (.t 2))⟩, ⟨some 104, some (90, false), (.call (.c (.fn (.func 26) [] [])) [(.t 98), (.t 102), (.t 103)])⟩, ⟨some 105, some (90, false), (.call (.c (.fn (.func 24) [] [])) [(.t 97), (.t 104)])⟩, ⟨some 106, some (90, false), (.un .not (.t 105))⟩, ⟨some 107, none, (.pick (.t 90) (.c (.bool true)) (.t 106))⟩])
 (.cond (.t 107)
 (.seq
 (.reg false [6] [
 ⟨some 6, none, (.mov (.c (.bool false)))⟩])
 .ret)
 .skip))))
 (.reg false [1, 2, 3, 7, 8] [
 ⟨some 26, none, (.mov (.t 8))⟩, ⟨some 27, none, (.bin .add (.t 26) (.c (.int .i64 1)))⟩, ⟨some 8, none, (.mov (.t 27))⟩]))))))
 (.seq
 (.reg false [6] [
 ⟨some 108, none, (.call (.c (.fn (.func 18) [] [])) [])⟩, ⟨some 6, none, (.mov (.t 108))⟩])
 .ret))))))
theorem op_constraintlaw30_LookupAccess {vals : List AV} {bs : List Box} {Q : AV → List Box → Prop} (hn : vals.length ≤ 109) (h : (⟨params 0 vals, bs, bs.length⟩ : St).fo true fun s => rc_constraintlaw30_LookupAccess.gp Try.prog true s (retP [.slot 6] Q)) : AM.Sem Try.prog 4 vals bs Q :=
  Sem.nrm (Sem.of (fn := Try.f4) (keeps := [(0, [1, 2, 3]), (1, [1, 2, 3, 12]), (2, [6]), (3, [1, 2, 3, 7]), (4, [1, 2, 3, 7, 21]), (5, [6]), (6, [1, 2, 3, 7, 8]), (7, [1, 2, 3, 7, 8, 25]), (9, [1, 2, 3, 7, 8, 9]), (10, [1, 2, 3, 7, 8, 9, 35]), (12, [1, 2, 3, 7, 8, 9, 72]), (13, [6]), (11, [1, 2, 3, 7, 8, 9]), (14, [1, 2, 3, 7, 8, 107]), (15, [6]), (8, [1, 2, 3, 7, 8]), (16, [6])]) (solo := []) Try.func4 rfl (by kernel_rfl) (by kernel_rfl) (by kernel_rfl) hn (run_gp h))

def rc_constraintref15_Great : RC :=
 (.seq
 (.reg false [1, 2] [
 ⟨some 2, none, (.box (.t 0))⟩, ⟨some 4, none, (.mov (.c (.bool false)))⟩])
 (.seq
 (.seq
 (.reg false [1, 2, 15] [
 ⟨some 6, none, (.fptr 0 (.t 2))⟩, ⟨some 7, none, (.load false 1 (.t 6))⟩, ⟨some 8, none, (.len false (.t 7))⟩, ⟨some 9, none, (.bin .gtr (.t 8) (.c (.int .i64 60)))⟩, ⟨some 10, none, (.mov (.t 9))⟩, ⟨some 11, some (10, false), (.fptr 1 (.t 2))⟩, ⟨some 12, some (10, false), (.load false 1 (.t 11))⟩, ⟨some 13, some (10, false), (.len false (.t 12))⟩, ⟨some 14, some (10, false), (.bin .gtr (.t 13) (.c (.int .i64 60)))⟩, ⟨some 15, none, (.pick (.t 10) (.c (.bool true)) (.t 14))⟩])
 (.cond (.t 15)
 (.seq
 (.reg false [4] [
 ⟨some 4, none, (.mov (.c (.bool true)))⟩])
 .ret)
 .skip))
 (.seq
 (.seq
 (.reg false [1, 2, 5] [
 ⟨some 5, none, (.mov (.c (.int .i64 0)))⟩])
 (.block 0
 (.loop
 (.seq
 (.seq
 (.reg false [1, 2, 5, 20] [
 ⟨some 16, none, (.mov (.t 5))⟩, ⟨some 17, none, (.fptr 0 (.t 2))⟩, ⟨some 18, none, (.load false 1 (.t 17))⟩, ⟨some 19, none, (.len false (.t 18))⟩, ⟨some 20, none, (.bin .lss (.t 16) (.t 19))⟩])
 (.cond (.t 20)
 .skip
 (.exit 0)))
 (.seq
 (.block 1
 (.seq
 (.reg false [1, 2, 5, 30] [
 ⟨some 23, none, (.fptr 0 (.t 2))⟩, ⟨some 24, none, (.load false 1 (.t 23))⟩, ⟨some 25, none, (.mov (.t 5))⟩, ⟨some 26, none, (.idx 2 (.t 24) (.t 25))⟩, ⟨some 27, none, (.fptr 0 (.t 26))⟩, ⟨some 28, none, (.load false 1 (.t 27))⟩, ⟨some 29, none, (.len true (.t 28))⟩, ⟨some 30, none, (.bin .gtr (.t 29) (.c (.int .i64 200)))⟩])
 (.cond (.t 30)
 (.seq
 (.reg false [4] [
 ⟨some 4, none, (.mov (.c (.bool true)))⟩])
 .ret)
 .skip)))
 (.reg false [1, 2, 5] [
 ⟨some 21, none, (.mov (.t 5))⟩, ⟨some 22, none, (.bin .add (.t 21) (.c (.int .i64 1)))⟩, ⟨some 5, none, (.mov (.t 22))⟩]))))))
 (.seq
 (.reg false [4] [
 ⟨some 31, none, (.fptr 1 (.t 2))⟩, ⟨some 32, none, (.load false 1 (.t 31))⟩, ⟨some 33, none, (.mov (.t 1))⟩, ⟨some 34, none, (.call (.c (.fn (.func 88) [] [])) [(.t 32), (.t 33)])⟩, ⟨some 4, none, (.mov (.t 34))⟩])
 .ret))))
theorem op_constraintref15_Great {vals : List AV} {bs : List Box} {Q : AV → List Box → Prop} (hn : vals.length ≤ 35) (h : (⟨params 0 vals, bs, bs.length⟩ : St).fo true fun s => rc_constraintref15_Great.gp Try.prog true s (retP [.slot 4] Q)) : AM.Sem Try.prog 53 vals bs Q :=
  Sem.nrm (Sem.of (fn := Try.f53) (keeps := [(0, [1, 2]), (1, [1, 2, 15]), (2, [4]), (3, [1, 2, 5]), (4, [1, 2, 5, 20]), (6, [1, 2, 5, 30]), (7, [4]), (5, [1, 2, 5]), (8, [4])]) (solo := []) Try.func53 rfl (by kernel_rfl) (by kernel_rfl) (by kernel_rfl) hn (run_gp h))

def rc_constraintref03_GreatRules : RC :=
 (.seq
 (.reg false [0, 1] [
 ⟨some 4, none, (.mov (.c (.bool false)))⟩])
 (.seq
 (.seq
 (.reg false [0, 1, 5] [
 ⟨some 5, none, (.mov (.c (.int .i64 0)))⟩])
 (.block 0
 (.loop
 (.seq
 (.seq
 (.reg false [0, 1, 5, 10] [
 ⟨some 7, none, (.mov (.t 5))⟩, ⟨some 8, none, (.mov (.t 0))⟩, ⟨some 9, none, (.len false (.t 8))⟩, ⟨some 10, none, (.bin .lss (.t 7) (.t 9))⟩])
 (.cond (.t 10)
 .skip
 (.exit 0)))
 (.seq
 (.block 1
 (.seq
 (.reg false [0, 1, 5, 6] [
 ⟨some 13, none, (.mov (.t 0))⟩, ⟨some 14, none, (.mov (.t 5))⟩, ⟨some 15, none, (.idx 6 (.t 13) (.t 14))⟩, ⟨some 16, none, (.load true 6 (.t 15))⟩, ⟨some 6, none, (.box (.c (.agg [(.str ⟨⟨[]⟩⟩), (.sl .full []), (.sl .full []), (.sl .full []), (.sl .full []), (.int .i64 0)])))⟩, ⟨none, none, (.store 6 (.t 6) (.t 16))⟩])
 (.seq
 (.reg false [0, 1, 5, 60] [
 ⟨some 17, none, (.mov (.t 0))⟩, ⟨some 18, none, (.len false (.t 17))⟩, ⟨some 19, none, (.mov (.t 1))⟩, ⟨some 20, none, (.bin .gtr (.t 18) (.t 19))⟩, ⟨some 21, none, (.mov (.t 20))⟩, ⟨some 22, some (21, false), (.fptr 0 (.t 6))⟩, ⟨some 23, some (21, false), (.load false 1 (.t 22))⟩, ⟨some 24, some (21, false), (.len true (.t 23))⟩, ⟨some 25, some (21, false), (.bin .quo (.t 24) (.c (.int .i64 8)))⟩, ⟨some 26, some (21, false), (.fptr 1 (.t 6))⟩, ⟨some 27, some (21, false), (.load false 1 (.t 26))⟩, ⟨some 28, some (21, false), (.len false (.t 27))⟩, ⟨some 29, some (21, false), (.bin .add (.t 25) (.t 28))⟩, ⟨some 30, some (21, false), (.fptr 2 (.t 6))⟩, ⟨some 31, some (21, false), (.load false 1 (.t 30))⟩, ⟨some 32, some (21, false), (.len false (.t 31))⟩, ⟨some 33, some (21, false), (.bin .add (.t 29) (.t 32))⟩, ⟨some 34, some (21, false), (.mov (.t 1))⟩, ⟨some 35, some (21, false), (.bin .gtr (.t 33) (.t 34))⟩, ⟨some 36, none, (.pick (.t 21) (.c (.bool true)) (.t 35))⟩, ⟨some 37, none, (.mov (.t 36))⟩, ⟨some 38, some (37, false), (.fptr 1 (.t 6))⟩, ⟨some 39, some (37, false), (.load false 1 (.t 38))⟩, ⟨some 40, some (37, false), (.mov (.t 1))⟩, ⟨some 41, some (37, false), (.call (.c (.fn (.func 84) [] [])) [(.t 39), (.t 40)])⟩, ⟨some 42, none, (.pick (.t 37) (.c (.bool true)) (.t 41))⟩, ⟨some 43, none, (.mov (.t 42))⟩, ⟨some 44, some (43, false), (.fptr 2 (.t 6))⟩, ⟨some 45, some (43, false), (.load false 1 (.t 44))⟩, ⟨some 46, some (43, false), (.mov (.t 1))⟩, ⟨some 47, some (43, false), (.call (.c (.fn (.func 84) [] [])) [(.t 45), (.t 46)])⟩, ⟨some 48, none, (.pick (.t 43) (.c (.bool true)) (.t 47))⟩, ⟨some 49, none, (.mov (.t 48))⟩, ⟨some 50, some (49, false), (.fptr 3 (.t 6))⟩, ⟨some 51, some (49, false), (.load false 1 (.t 50))⟩, ⟨some 52, some (49, false), (.mov (.t 1))⟩, ⟨some 53, some (49, false), (.call (.c (.fn (.func 107) [] [])) [(.t 51), (.t 52)])⟩, ⟨some 54, none, (.pick (.t 49) (.c (.bool true)) (.t 53))⟩, ⟨some 55, none, (.mov (.t 54))⟩, ⟨some 56, some (55, false), (.fptr 4 (.t 6))⟩, ⟨some 57, some (55, false), (.load false 1 (.t 56))⟩, ⟨some 58, some (55, false), (.mov (.t 1))⟩, ⟨some 59, some (55, false), (.call (.c (.fn (.func 107) [] [])) [(.t 57), (.t 58)])⟩, ⟨some 60, none, (.pick (.t 55) (.c (.bool true)) (.t 59))⟩])
 (.cond (.t 60)
 (.seq
 (.reg false [4] [
 ⟨some 4, none, (.mov (.c (.bool true)))⟩])
 .ret)
 .skip))))
 (.reg false [0, 1, 5] [
 ⟨some 11, none, (.mov (.t 5))⟩, ⟨some 12, none, (.bin .add (.t 11) (.c (.int .i64 1)))⟩, ⟨some 5, none, (.mov (.t 12))⟩]))))))
 (.seq
 (.reg false [4] [
 ⟨some 4, none, (.mov (.c (.bool false)))⟩])
 .ret)))
theorem op_constraintref03_GreatRules {vals : List AV} {bs : List Box} {Q : AV → List Box → Prop} (hn : vals.length ≤ 61) (h : (⟨params 0 vals, bs, bs.length⟩ : St).fo true fun s => rc_constraintref03_GreatRules.gp Try.prog true s (retP [.slot 4] Q)) : AM.Sem Try.prog 88 vals bs Q :=
  Sem.nrm (Sem.of (fn := Try.f88) (keeps := [(0, [0, 1]), (1, [0, 1, 5]), (2, [0, 1, 5, 10]), (4, [0, 1, 5, 6]), (5, [0, 1, 5, 60]), (6, [4]), (3, [0, 1, 5]), (7, [4])]) (solo := []) Try.func88 rfl (by kernel_rfl) (by kernel_rfl) (by kernel_rfl) hn (run_gp h))

def rc_constraintref03_GreatGoals : RC :=
 (.seq
 (.reg false [0, 1] [
 ⟨some 4, none, (.mov (.c (.bool false)))⟩])
 (.seq
 (.seq
 (.reg false [0, 1, 5] [
 ⟨some 5, none, (.mov (.c (.int .i64 0)))⟩])
 (.block 0
 (.loop
 (.seq
 (.seq
 (.reg false [0, 1, 5, 13] [
 ⟨some 6, none, (.mov (.t 5))⟩, ⟨some 7, none, (.mov (.t 0))⟩, ⟨some 8, none, (.len false (.t 7))⟩, ⟨some 9, none, (.bin .lss (.t 6) (.t 8))⟩, ⟨some 10, none, (.mov (.t 9))⟩, ⟨some 11, some (10, true), (.mov (.t 1))⟩, ⟨some 12, some (10, true), (.bin .geq (.t 11) (.c (.int .i64 0)))⟩, ⟨some 13, none, (.pick (.t 10) (.t 12) (.c (.bool false)))⟩])
 (.cond (.t 13)
 .skip
 (.exit 0)))
 (.seq
 (.block 1
 (.reg true [0, 1, 5] [
 ⟨some 16, none, (.mov (.t 0))⟩, ⟨some 17, none, (.mov (.t 5))⟩, ⟨some 18, none, (.idx 3 (.t 16) (.t 17))⟩, ⟨some 19, none, (.fptr 2 (.t 18))⟩, ⟨some 20, none, (.load false 1 (.t 19))⟩, ⟨some 21, none, (.mov (.t 1))⟩, ⟨some 22, none, (.bin .sub (.t 21) (.c (.int .i64 1)))⟩, ⟨some 23, none, (.mov (.t 0))⟩, ⟨some 24, none, (.mov (.t 5))⟩, ⟨some 25, none, (.idx 3 (.t 23) (.t 24))⟩, ⟨some 26, none, (.fptr 1 (.t 25))⟩, ⟨some 27, none, (.load false 1 (.t 26))⟩, ⟨some 28, none, (.len true (.t 27))⟩, ⟨some 29, none, (.bin .quo (.t 28) (.c (.int .i64 8)))⟩, ⟨some 30, none, (.bin .sub (.t 22) (.t 29))⟩, ⟨some 31, none, (.call (.c (.fn (.func 104) [] [])) [(.t 20), (.t 30), (.c (.int .i64 64))])⟩, ⟨some 1, none, (.take 31)⟩]))
 (.reg false [0, 1, 5] [
 ⟨some 14, none, (.mov (.t 5))⟩, ⟨some 15, none, (.bin .add (.t 14) (.c (.int .i64 1)))⟩, ⟨some 5, none, (.mov (.t 15))⟩]))))))
 (.seq
 (.reg false [4] [
 ⟨some 32, none, (.mov (.t 1))⟩, ⟨some 33, none, (.bin .lss (.t 32) (.c (.int .i64 0)))⟩, ⟨some 4, none, (.mov (.t 33))⟩])
 .ret)))
theorem op_constraintref03_GreatGoals {vals : List AV} {bs : List Box} {Q : AV → List Box → Prop} (hn : vals.length ≤ 34) (h : (⟨params 0 vals, bs, bs.length⟩ : St).fo true fun s => rc_constraintref03_GreatGoals.gp Try.prog true s (retP [.slot 4] Q)) : AM.Sem Try.prog 107 vals bs Q :=
  Sem.nrm (Sem.of (fn := Try.f107) (keeps := [(0, [0, 1]), (1, [0, 1, 5]), (2, [0, 1, 5, 13]), (4, [0, 1, 5]), (3, [0, 1, 5]), (5, [4])]) (solo := []) Try.func107 rfl (by kernel_rfl) (by kernel_rfl) (by kernel_rfl) hn (run_gp h))

def rc_constraintref03_Var : RC :=
 (.seq
 (.reg false [0, 2] [
 ⟨some 2, none, (.box (.c (.agg [(.int .i64 0), (.int .i64 0), (.str ⟨⟨[]⟩⟩), (.sl .full [])])))⟩])
 (.seq
 (.reg false [2] [
 ⟨some 3, none, (.mov (.t 0))⟩, ⟨some 4, none, (.build [(.int .i64 0), (.int .i64 0), (.str ⟨⟨[]⟩⟩), (.sl .full [])] [(0, 1, (.c (.int .i64 1))), (1, 1, (.t 3))])⟩, ⟨none, none, (.store 4 (.t 2) (.t 4))⟩])
 .ret))
theorem op_constraintref03_Var {vals : List AV} {bs : List Box} {Q : AV → List Box → Prop} (hn : vals.length ≤ 5) (h : (⟨params 0 vals, bs, bs.length⟩ : St).fo true fun s => rc_constraintref03_Var.gp Try.prog true s (retP [.cell 2 true 4] Q)) : AM.Sem Try.prog 64 vals bs Q :=
  Sem.nrm (Sem.of (fn := Try.f64) (keeps := [(0, [0, 2]), (1, [2])]) (solo := []) Try.func64 rfl (by kernel_rfl) (by kernel_rfl) (by kernel_rfl) hn (run_gp h))

def rc_constraintref03_Int : RC :=
 (.seq
 (.reg false [0, 2] [
 ⟨some 2, none, (.box (.c (.agg [(.int .i64 0), (.int .i64 0), (.str ⟨⟨[]⟩⟩), (.sl .full [])])))⟩])
 (.seq
 (.reg false [2] [
 ⟨some 3, none, (.mov (.t 0))⟩, ⟨some 4, none, (.build [(.int .i64 0), (.int .i64 0), (.str ⟨⟨[]⟩⟩), (.sl .full [])] [(0, 1, (.c (.int .i64 0))), (1, 1, (.t 3))])⟩, ⟨none, none, (.store 4 (.t 2) (.t 4))⟩])
 .ret))
theorem op_constraintref03_Int {vals : List AV} {bs : List Box} {Q : AV → List Box → Prop} (hn : vals.length ≤ 5) (h : (⟨params 0 vals, bs, bs.length⟩ : St).fo true fun s => rc_constraintref03_Int.gp Try.prog true s (retP [.cell 2 true 4] Q)) : AM.Sem Try.prog 65 vals bs Q :=
  Sem.nrm (Sem.of (fn := Try.f65) (keeps := [(0, [0, 2]), (1, [2])]) (solo := []) Try.func65 rfl (by kernel_rfl) (by kernel_rfl) (by kernel_rfl) hn (run_gp h))

theorem opS_lookup_Known_1 {vals : List AV} {bs : List Box} {Q : AV → List Box → Prop} (hn : vals.length ≤ 8) (h : (⟨params 0 vals, bs, bs.length⟩ : St).fo false fun s => rc_lookup_Known_1.gp Try.prog false s (retP [.slot 3] Q)) : AM.Sem Try.prog 58 vals bs Q :=
  Sem.nrm (Sem.of (fn := Try.f58) (keeps := [(0, [0, 1]), (1, [3])]) (solo := []) Try.func58 rfl (by kernel_rfl) (by kernel_rfl) (by kernel_rfl) hn (run_gp h))

theorem opS_lookup_find_1 {vals : List AV} {bs : List Box} {Q : AV → List Box → Prop} (hn : vals.length ≤ 24) (h : (⟨params 0 vals, bs, bs.length⟩ : St).fo false fun s => rc_lookup_find_1.gp Try.prog false s (retP [.slot 4] Q)) : AM.Sem Try.prog 95 vals bs Q :=
  Sem.nrm (Sem.of (fn := Try.f95) (keeps := [(0, [1, 2, 3]), (1, [4])]) (solo := []) Try.func95 rfl (by kernel_rfl) (by kernel_rfl) (by kernel_rfl) hn (run_gp h))

theorem opS_slices_IndexFunc_api_Access_api_Access {vals : List AV} {bs : List Box} {Q : AV → List Box → Prop} (hn : vals.length ≤ 19) (h : (⟨params 0 vals, bs, bs.length⟩ : St).fo false fun s => rc_slices_IndexFunc_api_Access_api_Access.gp Try.prog false s (retP [.slot 4] Q)) : AM.Sem Try.prog 94 vals bs Q :=
  Sem.nrm (Sem.of (fn := Try.f94) (keeps := [(0, [0, 1]), (1, [0, 1, 7, 8]), (2, [0, 1, 7, 8, 9]), (3, [0, 1, 5, 7, 8]), (4, [0, 1, 5, 7, 8, 16]), (5, [4]), (6, [0, 1, 7, 8]), (7, [4])]) (solo := []) Try.func94 rfl (by kernel_rfl) (by kernel_rfl) (by kernel_rfl) hn (run_gp h))

end Go.CK
