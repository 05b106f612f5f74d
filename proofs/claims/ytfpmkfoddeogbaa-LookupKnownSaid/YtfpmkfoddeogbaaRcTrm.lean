/-
  TERMS: the small code of functions of the program, printed by wip/gen/rc.py, each checked against the program by the kernel. By an AI agent.
-/
import Derived.Test.YtfpmkfoddeogbaaProg
import Derived.Test.YtfpmkfoddeogbaaAmP
namespace Go.CK
open Go.AM Go.Proofs

def rc_slices_Contains_int_int : RC :=
 (.seq
 (.reg false [0, 1] [
 ⟨some 4, none, (.mov (.c (.bool false)))⟩])
 (.seq
 (.reg false [4] [
 ⟨some 5, none, (.mov (.t 0))⟩, ⟨some 6, none, (.mov (.t 1))⟩, ⟨some 7, none, (.call (.c (.fn (.func 103) [] [])) [(.t 5), (.t 6)])⟩, ⟨some 8, none, (.bin .geq (.t 7) (.c (.int .i64 0)))⟩, ⟨some 4, none, (.mov (.t 8))⟩])
 .ret))
theorem op_slices_Contains_int_int {vals : List AV} {bs : List Box} {Q : AV → List Box → Prop} (hn : vals.length ≤ 9) (h : (⟨params 0 vals, bs, bs.length⟩ : St).fo true fun s => rc_slices_Contains_int_int.gp Try.prog true s (retP [.slot 4] Q)) : AM.Sem Try.prog 83 vals bs Q :=
  Sem.nrm (Sem.of (fn := Try.f83) (keeps := [(0, [0, 1]), (1, [4])]) (solo := []) Try.func83 rfl (by kernel_rfl) (by kernel_rfl) (by kernel_rfl) hn (run_gp h))

def rc_slices_Index_int_int : RC :=
 (.seq
 (.reg false [0, 1] [
 ⟨some 4, none, (.mov (.c (.int .i64 0)))⟩])
 (.seq
 (.seq
 (.reg false [0, 1, 7, 8] [
 ⟨some 6, none, (.mov (.t 0))⟩, ⟨some 7, none, (.len false (.t 6))⟩, ⟨some 8, none, (.mov (.c (.int .i64 0)))⟩])
 (.block 0
 (.loop
 (.seq
 (.reg false [0, 1, 7, 8, 9] [
 ⟨some 9, none, (.bin .lss (.t 8) (.t 7))⟩])
 (.seq
 (.cond (.t 9)
 .skip
 (.exit 0))
 (.seq
 (.block 1
 (.seq
 (.reg false [0, 1, 5, 7, 8] [
 ⟨some 10, none, (.mov (.t 8))⟩, ⟨some 5, none, (.mov (.t 10))⟩])
 (.seq
 (.reg false [0, 1, 5, 7, 8, 16] [
 ⟨some 11, none, (.mov (.t 1))⟩, ⟨some 12, none, (.mov (.t 0))⟩, ⟨some 13, none, (.mov (.t 5))⟩, ⟨some 14, none, (.idx 1 (.t 12) (.t 13))⟩, ⟨some 15, none, (.load false 1 (.t 14))⟩, ⟨some 16, none, (.bin .eql (.t 11) (.t 15))⟩])
 (.cond (.t 16)
 (.seq
 (.reg false [4] [
 ⟨some 17, none, (.mov (.t 5))⟩, ⟨some 4, none, (.mov (.t 17))⟩])
 .ret)
 .skip))))
 (.reg false [0, 1, 7, 8] [
 ⟨some 18, none, (.bin .add (.t 8) (.c (.int .i64 1)))⟩, ⟨some 8, none, (.mov (.t 18))⟩])))))))
 (.seq
 (.reg false [4] [
 ⟨some 4, none, (.mov (.c (.int .i64 (-1))))⟩])
 .ret)))
theorem op_slices_Index_int_int {vals : List AV} {bs : List Box} {Q : AV → List Box → Prop} (hn : vals.length ≤ 19) (h : (⟨params 0 vals, bs, bs.length⟩ : St).fo true fun s => rc_slices_Index_int_int.gp Try.prog true s (retP [.slot 4] Q)) : AM.Sem Try.prog 103 vals bs Q :=
  Sem.nrm (Sem.of (fn := Try.f103) (keeps := [(0, [0, 1]), (1, [0, 1, 7, 8]), (2, [0, 1, 7, 8, 9]), (3, [0, 1, 5, 7, 8]), (4, [0, 1, 5, 7, 8, 16]), (5, [4]), (6, [0, 1, 7, 8]), (7, [4])]) (solo := []) Try.func103 rfl (by kernel_rfl) (by kernel_rfl) (by kernel_rfl) hn (run_gp h))

def rc_slices_Equal_int_int : RC :=
 (.seq
 (.reg false [0, 1] [
 ⟨some 4, none, (.mov (.c (.bool false)))⟩])
 (.seq
 (.seq
 (.reg false [0, 1, 10] [
 ⟨some 6, none, (.mov (.t 0))⟩, ⟨some 7, none, (.len false (.t 6))⟩, ⟨some 8, none, (.mov (.t 1))⟩, ⟨some 9, none, (.len false (.t 8))⟩, ⟨some 10, none, (.bin .neq (.t 7) (.t 9))⟩])
 (.cond (.t 10)
 (.seq
 (.reg false [4] [
 ⟨some 4, none, (.mov (.c (.bool false)))⟩])
 .ret)
 .skip))
 (.seq
 (.seq
 (.reg false [0, 1, 12, 13] [
 ⟨some 11, none, (.mov (.t 0))⟩, ⟨some 12, none, (.len false (.t 11))⟩, ⟨some 13, none, (.mov (.c (.int .i64 0)))⟩])
 (.block 0
 (.loop
 (.seq
 (.reg false [0, 1, 12, 13, 14] [
 ⟨some 14, none, (.bin .lss (.t 13) (.t 12))⟩])
 (.seq
 (.cond (.t 14)
 .skip
 (.exit 0))
 (.seq
 (.block 1
 (.seq
 (.reg false [0, 1, 5, 12, 13] [
 ⟨some 15, none, (.mov (.t 13))⟩, ⟨some 5, none, (.mov (.t 15))⟩])
 (.seq
 (.reg true [0, 1, 12, 13, 24] [
 ⟨some 16, none, (.mov (.t 0))⟩, ⟨some 17, none, (.mov (.t 5))⟩, ⟨some 18, none, (.idx 1 (.t 16) (.t 17))⟩, ⟨some 19, none, (.load false 1 (.t 18))⟩, ⟨some 20, none, (.mov (.t 1))⟩, ⟨some 21, none, (.mov (.t 5))⟩, ⟨some 22, none, (.idx 1 (.t 20) (.t 21))⟩, ⟨some 23, none, (.load false 1 (.t 22))⟩, ⟨some 24, none, (.bin .neq (.t 19) (.t 23))⟩])
 (.cond (.t 24)
 (.seq
 (.reg false [4] [
 ⟨some 4, none, (.mov (.c (.bool false)))⟩])
 .ret)
 .skip))))
 (.reg false [0, 1, 12, 13] [
 ⟨some 25, none, (.bin .add (.t 13) (.c (.int .i64 1)))⟩, ⟨some 13, none, (.mov (.t 25))⟩])))))))
 (.seq
 (.reg false [4] [
 ⟨some 4, none, (.mov (.c (.bool true)))⟩])
 .ret))))
theorem op_slices_Equal_int_int {vals : List AV} {bs : List Box} {Q : AV → List Box → Prop} (hn : vals.length ≤ 26) (h : (⟨params 0 vals, bs, bs.length⟩ : St).fo true fun s => rc_slices_Equal_int_int.gp Try.prog true s (retP [.slot 4] Q)) : AM.Sem Try.prog 87 vals bs Q :=
  Sem.nrm (Sem.of (fn := Try.f87) (keeps := [(0, [0, 1]), (1, [0, 1, 10]), (2, [4]), (3, [0, 1, 12, 13]), (4, [0, 1, 12, 13, 14]), (5, [0, 1, 5, 12, 13]), (6, [0, 1, 12, 13, 24]), (7, [4]), (8, [0, 1, 12, 13]), (9, [4])]) (solo := []) Try.func87 rfl (by kernel_rfl) (by kernel_rfl) (by kernel_rfl) hn (run_gp h))

def rc_slices_ContainsFunc_int_int : RC :=
 (.seq
 (.reg false [0, 1] [
 ⟨some 4, none, (.mov (.c (.bool false)))⟩])
 (.seq
 (.reg false [4] [
 ⟨some 5, none, (.mov (.t 0))⟩, ⟨some 6, none, (.mov (.t 1))⟩, ⟨some 7, none, (.call (.c (.fn (.func 92) [] [])) [(.t 5), (.t 6)])⟩, ⟨some 8, none, (.bin .geq (.t 7) (.c (.int .i64 0)))⟩, ⟨some 4, none, (.mov (.t 8))⟩])
 .ret))
theorem op_slices_ContainsFunc_int_int {vals : List AV} {bs : List Box} {Q : AV → List Box → Prop} (hn : vals.length ≤ 9) (h : (⟨params 0 vals, bs, bs.length⟩ : St).fo true fun s => rc_slices_ContainsFunc_int_int.gp Try.prog true s (retP [.slot 4] Q)) : AM.Sem Try.prog 56 vals bs Q :=
  Sem.nrm (Sem.of (fn := Try.f56) (keeps := [(0, [0, 1]), (1, [4])]) (solo := []) Try.func56 rfl (by kernel_rfl) (by kernel_rfl) (by kernel_rfl) hn (run_gp h))

def rc_slices_IndexFunc_int_int : RC :=
 (.seq
 (.reg false [0, 1] [
 ⟨some 4, none, (.mov (.c (.int .i64 0)))⟩])
 (.seq
 (.seq
 (.reg false [0, 1, 7, 8] [
 ⟨some 6, none, (.mov (.t 0))⟩, ⟨some 7, none, (.len false (.t 6))⟩, ⟨some 8, none, (.mov (.c (.int .i64 0)))⟩])
 (.block 0
 (.loop
 (.seq
 (.reg false [0, 1, 7, 8, 9] [
 ⟨some 9, none, (.bin .lss (.t 8) (.t 7))⟩])
 (.seq
 (.cond (.t 9)
 .skip
 (.exit 0))
 (.seq
 (.block 1
 (.seq
 (.reg false [0, 1, 5, 7, 8] [
 ⟨some 10, none, (.mov (.t 8))⟩, ⟨some 5, none, (.mov (.t 10))⟩])
 (.seq
 (.reg false [0, 1, 5, 7, 8, 16] [
 ⟨some 11, none, (.mov (.t 1))⟩, ⟨some 12, none, (.mov (.t 0))⟩, ⟨some 13, none, (.mov (.t 5))⟩, ⟨some 14, none, (.idx 1 (.t 12) (.t 13))⟩, ⟨some 15, none, (.load false 1 (.t 14))⟩, ⟨some 16, none, (.callv (.t 11) [(.t 15)])⟩])
 (.cond (.t 16)
 (.seq
 (.reg false [4] [
 ⟨some 17, none, (.mov (.t 5))⟩, ⟨some 4, none, (.mov (.t 17))⟩])
 .ret)
 .skip))))
 (.reg false [0, 1, 7, 8] [
 ⟨some 18, none, (.bin .add (.t 8) (.c (.int .i64 1)))⟩, ⟨some 8, none, (.mov (.t 18))⟩])))))))
 (.seq
 (.reg false [4] [
 ⟨some 4, none, (.mov (.c (.int .i64 (-1))))⟩])
 .ret)))
theorem op_slices_IndexFunc_int_int {vals : List AV} {bs : List Box} {Q : AV → List Box → Prop} (hn : vals.length ≤ 19) (h : (⟨params 0 vals, bs, bs.length⟩ : St).fo true fun s => rc_slices_IndexFunc_int_int.gp Try.prog true s (retP [.slot 4] Q)) : AM.Sem Try.prog 92 vals bs Q :=
  Sem.nrm (Sem.of (fn := Try.f92) (keeps := [(0, [0, 1]), (1, [0, 1, 7, 8]), (2, [0, 1, 7, 8, 9]), (3, [0, 1, 5, 7, 8]), (4, [0, 1, 5, 7, 8, 16]), (5, [4]), (6, [0, 1, 7, 8]), (7, [4])]) (solo := []) Try.func92 rfl (by kernel_rfl) (by kernel_rfl) (by kernel_rfl) hn (run_gp h))

def rc_slices_Backward_int_int : RC :=
 (.seq
 (.reg false [1] [
 ⟨some 1, none, (.box (.t 0))⟩, ⟨some 2, none, (.mov (.c .nfn))⟩])
 (.seq
 (.reg false [2] [
 ⟨some 3, none, (.mkfn (.func 101) [] [(.t 1)])⟩, ⟨some 2, none, (.mov (.t 3))⟩])
 .ret))
theorem op_slices_Backward_int_int {vals : List AV} {bs : List Box} {Q : AV → List Box → Prop} (hn : vals.length ≤ 4) (h : (⟨params 0 vals, bs, bs.length⟩ : St).fo true fun s => rc_slices_Backward_int_int.gp Try.prog true s (retP [.slot 2] Q)) : AM.Sem Try.prog 80 vals bs Q :=
  Sem.nrm (Sem.of (fn := Try.f80) (keeps := [(0, [1]), (1, [2])]) (solo := []) Try.func80 rfl (by kernel_rfl) (by kernel_rfl) (by kernel_rfl) hn (run_gp h))

def rc_slices_Backward_int_int_1 : RC :=
 (.seq
 (.reg false [0, 1, 3] [
 ⟨some 4, none, (.load false 1 (.t 1))⟩, ⟨some 5, none, (.len false (.t 4))⟩, ⟨some 6, none, (.bin .sub (.t 5) (.c (.int .i64 1)))⟩, ⟨some 3, none, (.mov (.t 6))⟩])
 (.block 0
 (.loop
 (.seq
 (.seq
 (.reg false [0, 1, 3, 8] [
 ⟨some 7, none, (.mov (.t 3))⟩, ⟨some 8, none, (.bin .geq (.t 7) (.c (.int .i64 0)))⟩])
 (.cond (.t 8)
 .skip
 (.exit 0)))
 (.seq
 (.block 1
 (.seq
 (.reg false [0, 1, 3, 18] [
 ⟨some 11, none, (.mov (.t 0))⟩, ⟨some 12, none, (.mov (.t 3))⟩, ⟨some 13, none, (.load false 1 (.t 1))⟩, ⟨some 14, none, (.mov (.t 3))⟩, ⟨some 15, none, (.idx 1 (.t 13) (.t 14))⟩, ⟨some 16, none, (.load false 1 (.t 15))⟩, ⟨some 17, none, (.callv (.t 11) [(.t 12), (.t 16)])⟩, ⟨some 18, none, (.un .not (.t 17))⟩])
 (.cond (.t 18)
 .ret
 .skip)))
 (.reg false [0, 1, 3] [
 ⟨some 9, none, (.mov (.t 3))⟩, ⟨some 10, none, (.bin .sub (.t 9) (.c (.int .i64 1)))⟩, ⟨some 3, none, (.mov (.t 10))⟩]))))))
theorem op_slices_Backward_int_int_1 {vals : List AV} {bs : List Box} {Q : AV → List Box → Prop} (hn : vals.length ≤ 19) (h : (⟨params 0 vals, bs, bs.length⟩ : St).fo true fun s => rc_slices_Backward_int_int_1.gp Try.prog true s (retP [] Q)) : AM.Sem Try.prog 101 vals bs Q :=
  Sem.nrm (Sem.of (fn := Try.f101) (keeps := [(0, [0, 1, 3]), (1, [0, 1, 3, 8]), (3, [0, 1, 3, 18]), (2, [0, 1, 3])]) (solo := []) Try.func101 rfl (by kernel_rfl) (by kernel_rfl) (by kernel_rfl) hn (run_gp h))

def rc_cmp_Or_int : RC :=
 (.seq
 (.reg false [0] [
 ⟨some 2, none, (.mov (.c (.int .i64 0)))⟩])
 (.seq
 (.reg false [0, 3] [
 ⟨some 3, none, (.mov (.c (.int .i64 0)))⟩])
 (.seq
 (.seq
 (.reg false [3, 6, 7, 8] [
 ⟨some 6, none, (.mov (.t 0))⟩, ⟨some 7, none, (.len false (.t 6))⟩, ⟨some 8, none, (.mov (.c (.int .i64 0)))⟩])
 (.block 0
 (.loop
 (.seq
 (.reg false [3, 6, 7, 8, 9] [
 ⟨some 9, none, (.bin .lss (.t 8) (.t 7))⟩])
 (.seq
 (.cond (.t 9)
 .skip
 (.exit 0))
 (.seq
 (.block 1
 (.seq
 (.reg false [3, 5, 6, 7, 8] [
 ⟨some 10, none, (.idx 1 (.t 6) (.t 8))⟩, ⟨some 11, none, (.load false 1 (.t 10))⟩, ⟨some 5, none, (.mov (.t 11))⟩])
 (.seq
 (.reg false [3, 5, 6, 7, 8, 14] [
 ⟨some 12, none, (.mov (.t 5))⟩, ⟨some 13, none, (.mov (.t 3))⟩, ⟨some 14, none, (.bin .neq (.t 12) (.t 13))⟩])
 (.cond (.t 14)
 (.seq
 (.reg false [2] [
 ⟨some 15, none, (.mov (.t 5))⟩, ⟨some 2, none, (.mov (.t 15))⟩])
 .ret)
 .skip))))
 (.reg false [3, 6, 7, 8] [
 ⟨some 16, none, (.bin .add (.t 8) (.c (.int .i64 1)))⟩, ⟨some 8, none, (.mov (.t 16))⟩])))))))
 (.seq
 (.reg false [2] [
 ⟨some 17, none, (.mov (.t 3))⟩, ⟨some 2, none, (.mov (.t 17))⟩])
 .ret))))
theorem op_cmp_Or_int {vals : List AV} {bs : List Box} {Q : AV → List Box → Prop} (hn : vals.length ≤ 18) (h : (⟨params 0 vals, bs, bs.length⟩ : St).fo true fun s => rc_cmp_Or_int.gp Try.prog true s (retP [.slot 2] Q)) : AM.Sem Try.prog 126 vals bs Q :=
  Sem.nrm (Sem.of (fn := Try.f126) (keeps := [(0, [0]), (1, [0, 3]), (2, [3, 6, 7, 8]), (3, [3, 6, 7, 8, 9]), (4, [3, 5, 6, 7, 8]), (5, [3, 5, 6, 7, 8, 14]), (6, [2]), (7, [3, 6, 7, 8]), (8, [2])]) (solo := []) Try.func126 rfl (by kernel_rfl) (by kernel_rfl) (by kernel_rfl) hn (run_gp h))

def rc_cmp_Compare_string : RC :=
 (.seq
 (.reg false [0, 1] [
 ⟨some 4, none, (.mov (.c (.int .i64 0)))⟩])
 (.seq
 (.reg false [0, 1, 5] [
 ⟨some 7, none, (.mov (.t 0))⟩, ⟨some 8, none, (.call (.c (.fn (.func 137) [] [])) [(.t 7)])⟩, ⟨some 5, none, (.mov (.t 8))⟩])
 (.seq
 (.reg false [0, 1, 5, 6] [
 ⟨some 9, none, (.mov (.t 1))⟩, ⟨some 10, none, (.call (.c (.fn (.func 137) [] [])) [(.t 9)])⟩, ⟨some 6, none, (.mov (.t 10))⟩])
 (.seq
 (.seq
 (.reg false [0, 1, 6, 11] [
 ⟨some 11, none, (.mov (.t 5))⟩])
 (.cond (.t 11)
 (.seq
 (.seq
 (.reg false [12] [
 ⟨some 12, none, (.mov (.t 6))⟩])
 (.cond (.t 12)
 (.seq
 (.reg false [4] [
 ⟨some 4, none, (.mov (.c (.int .i64 0)))⟩])
 .ret)
 .skip))
 (.seq
 (.reg false [4] [
 ⟨some 4, none, (.mov (.c (.int .i64 (-1))))⟩])
 .ret))
 .skip))
 (.seq
 (.seq
 (.reg false [0, 1, 13] [
 ⟨some 13, none, (.mov (.t 6))⟩])
 (.cond (.t 13)
 (.seq
 (.reg false [4] [
 ⟨some 4, none, (.mov (.c (.int .i64 1)))⟩])
 .ret)
 .skip))
 (.seq
 (.seq
 (.reg false [0, 1, 16] [
 ⟨some 14, none, (.mov (.t 0))⟩, ⟨some 15, none, (.mov (.t 1))⟩, ⟨some 16, none, (.bin .lss (.t 14) (.t 15))⟩])
 (.cond (.t 16)
 (.seq
 (.reg false [4] [
 ⟨some 4, none, (.mov (.c (.int .i64 (-1))))⟩])
 .ret)
 .skip))
 (.seq
 (.seq
 (.reg false [19] [
 ⟨some 17, none, (.mov (.t 0))⟩, ⟨some 18, none, (.mov (.t 1))⟩, ⟨some 19, none, (.bin .gtr (.t 17) (.t 18))⟩])
 (.cond (.t 19)
 (.seq
 (.reg false [4] [
 ⟨some 4, none, (.mov (.c (.int .i64 1)))⟩])
 .ret)
 .skip))
 (.seq
 (.reg false [4] [
 ⟨some 4, none, (.mov (.c (.int .i64 0)))⟩])
 .ret))))))))
theorem op_cmp_Compare_string {vals : List AV} {bs : List Box} {Q : AV → List Box → Prop} (hn : vals.length ≤ 20) (h : (⟨params 0 vals, bs, bs.length⟩ : St).fo true fun s => rc_cmp_Compare_string.gp Try.prog true s (retP [.slot 4] Q)) : AM.Sem Try.prog 127 vals bs Q :=
  Sem.nrm (Sem.of (fn := Try.f127) (keeps := [(0, [0, 1]), (1, [0, 1, 5]), (2, [0, 1, 5, 6]), (3, [0, 1, 6, 11]), (4, [12]), (5, [4]), (6, [4]), (7, [0, 1, 13]), (8, [4]), (9, [0, 1, 16]), (10, [4]), (11, [19]), (12, [4]), (13, [4])]) (solo := []) Try.func127 rfl (by kernel_rfl) (by kernel_rfl) (by kernel_rfl) hn (run_gp h))

def rc_cmp_Compare_int : RC :=
 (.seq
 (.reg false [0, 1] [
 ⟨some 4, none, (.mov (.c (.int .i64 0)))⟩])
 (.seq
 (.reg false [0, 1, 5] [
 ⟨some 7, none, (.mov (.t 0))⟩, ⟨some 8, none, (.call (.c (.fn (.func 136) [] [])) [(.t 7)])⟩, ⟨some 5, none, (.mov (.t 8))⟩])
 (.seq
 (.reg false [0, 1, 5, 6] [
 ⟨some 9, none, (.mov (.t 1))⟩, ⟨some 10, none, (.call (.c (.fn (.func 136) [] [])) [(.t 9)])⟩, ⟨some 6, none, (.mov (.t 10))⟩])
 (.seq
 (.seq
 (.reg false [0, 1, 6, 11] [
 ⟨some 11, none, (.mov (.t 5))⟩])
 (.cond (.t 11)
 (.seq
 (.seq
 (.reg false [12] [
 ⟨some 12, none, (.mov (.t 6))⟩])
 (.cond (.t 12)
 (.seq
 (.reg false [4] [
 ⟨some 4, none, (.mov (.c (.int .i64 0)))⟩])
 .ret)
 .skip))
 (.seq
 (.reg false [4] [
 ⟨some 4, none, (.mov (.c (.int .i64 (-1))))⟩])
 .ret))
 .skip))
 (.seq
 (.seq
 (.reg false [0, 1, 13] [
 ⟨some 13, none, (.mov (.t 6))⟩])
 (.cond (.t 13)
 (.seq
 (.reg false [4] [
 ⟨some 4, none, (.mov (.c (.int .i64 1)))⟩])
 .ret)
 .skip))
 (.seq
 (.seq
 (.reg false [0, 1, 16] [
 ⟨some 14, none, (.mov (.t 0))⟩, ⟨some 15, none, (.mov (.t 1))⟩, ⟨some 16, none, (.bin .lss (.t 14) (.t 15))⟩])
 (.cond (.t 16)
 (.seq
 (.reg false [4] [
 ⟨some 4, none, (.mov (.c (.int .i64 (-1))))⟩])
 .ret)
 .skip))
 (.seq
 (.seq
 (.reg false [19] [
 ⟨some 17, none, (.mov (.t 0))⟩, ⟨some 18, none, (.mov (.t 1))⟩, ⟨some 19, none, (.bin .gtr (.t 17) (.t 18))⟩])
 (.cond (.t 19)
 (.seq
 (.reg false [4] [
 ⟨some 4, none, (.mov (.c (.int .i64 1)))⟩])
 .ret)
 .skip))
 (.seq
 (.reg false [4] [
 ⟨some 4, none, (.mov (.c (.int .i64 0)))⟩])
 .ret))))))))
theorem op_cmp_Compare_int {vals : List AV} {bs : List Box} {Q : AV → List Box → Prop} (hn : vals.length ≤ 20) (h : (⟨params 0 vals, bs, bs.length⟩ : St).fo true fun s => rc_cmp_Compare_int.gp Try.prog true s (retP [.slot 4] Q)) : AM.Sem Try.prog 128 vals bs Q :=
  Sem.nrm (Sem.of (fn := Try.f128) (keeps := [(0, [0, 1]), (1, [0, 1, 5]), (2, [0, 1, 5, 6]), (3, [0, 1, 6, 11]), (4, [12]), (5, [4]), (6, [4]), (7, [0, 1, 13]), (8, [4]), (9, [0, 1, 16]), (10, [4]), (11, [19]), (12, [4]), (13, [4])]) (solo := []) Try.func128 rfl (by kernel_rfl) (by kernel_rfl) (by kernel_rfl) hn (run_gp h))

def rc_cmp_isNaN_int : RC :=
 (.seq
 (.reg false [0] [
 ⟨some 2, none, (.mov (.c (.bool false)))⟩])
 (.seq
 (.reg false [2] [
 ⟨some 3, none, (.mov (.t 0))⟩, ⟨some 4, none, (.mov (.t 0))⟩, ⟨some 5, none, (.bin .neq (.t 3) (.t 4))⟩, ⟨some 2, none, (.mov (.t 5))⟩])
 .ret))
theorem op_cmp_isNaN_int {vals : List AV} {bs : List Box} {Q : AV → List Box → Prop} (hn : vals.length ≤ 6) (h : (⟨params 0 vals, bs, bs.length⟩ : St).fo true fun s => rc_cmp_isNaN_int.gp Try.prog true s (retP [.slot 2] Q)) : AM.Sem Try.prog 136 vals bs Q :=
  Sem.nrm (Sem.of (fn := Try.f136) (keeps := [(0, [0]), (1, [2])]) (solo := []) Try.func136 rfl (by kernel_rfl) (by kernel_rfl) (by kernel_rfl) hn (run_gp h))

def rc_cmp_isNaN_string : RC :=
 (.seq
 (.reg false [0] [
 ⟨some 2, none, (.mov (.c (.bool false)))⟩])
 (.seq
 (.reg false [2] [
 ⟨some 3, none, (.mov (.t 0))⟩, ⟨some 4, none, (.mov (.t 0))⟩, ⟨some 5, none, (.bin .neq (.t 3) (.t 4))⟩, ⟨some 2, none, (.mov (.t 5))⟩])
 .ret))
theorem op_cmp_isNaN_string {vals : List AV} {bs : List Box} {Q : AV → List Box → Prop} (hn : vals.length ≤ 6) (h : (⟨params 0 vals, bs, bs.length⟩ : St).fo true fun s => rc_cmp_isNaN_string.gp Try.prog true s (retP [.slot 2] Q)) : AM.Sem Try.prog 137 vals bs Q :=
  Sem.nrm (Sem.of (fn := Try.f137) (keeps := [(0, [0]), (1, [2])]) (solo := []) Try.func137 rfl (by kernel_rfl) (by kernel_rfl) (by kernel_rfl) hn (run_gp h))

def rc_term_SameAtom : RC :=
 (.seq
 (.reg false [2, 3] [
 ⟨some 2, none, (.box (.t 0))⟩, ⟨some 3, none, (.box (.t 1))⟩, ⟨some 4, none, (.mov (.c (.bool false)))⟩])
 (.seq
 (.reg false [4] [
 ⟨some 5, none, (.load true 2 (.t 2))⟩, ⟨some 6, none, (.load true 2 (.t 3))⟩, ⟨some 7, none, (.call (.c (.fn (.func 106) [] [])) [(.t 5), (.t 6)])⟩, ⟨some 8, none, (.bin .eql (.t 7) (.c (.int .i64 0)))⟩, ⟨some 4, none, (.mov (.t 8))⟩])
 .ret))
theorem op_term_SameAtom {vals : List AV} {bs : List Box} {Q : AV → List Box → Prop} (hn : vals.length ≤ 9) (h : (⟨params 0 vals, bs, bs.length⟩ : St).fo true fun s => rc_term_SameAtom.gp Try.prog true s (retP [.slot 4] Q)) : AM.Sem Try.prog 86 vals bs Q :=
  Sem.nrm (Sem.of (fn := Try.f86) (keeps := [(0, [2, 3]), (1, [4])]) (solo := []) Try.func86 rfl (by kernel_rfl) (by kernel_rfl) (by kernel_rfl) hn (run_gp h))

def rc_term_CompareAtom : RC :=
 (.seq
 (.reg false [2, 3] [
 ⟨some 2, none, (.box (.t 0))⟩, ⟨some 3, none, (.box (.t 1))⟩, ⟨some 4, none, (.mov (.c (.int .i64 0)))⟩])
 (.seq
 (.seq
 (.reg true [2, 3, 5] [
 ⟨some 6, none, (.fptr 0 (.t 2))⟩, ⟨some 7, none, (.load false 1 (.t 6))⟩, ⟨some 8, none, (.fptr 0 (.t 3))⟩, ⟨some 9, none, (.load false 1 (.t 8))⟩, ⟨some 10, none, (.call (.c (.fn (.func 127) [] [])) [(.t 7), (.t 9)])⟩, ⟨some 11, none, (.fptr 1 (.t 2))⟩, ⟨some 12, none, (.load false 1 (.t 11))⟩, ⟨some 13, none, (.len false (.t 12))⟩, ⟨some 14, none, (.fptr 1 (.t 3))⟩, ⟨some 15, none, (.load false 1 (.t 14))⟩, ⟨some 16, none, (.len false (.t 15))⟩, ⟨some 17, none, (.call (.c (.fn (.func 128) [] [])) [(.t 13), (.t 16)])⟩, ⟨some 18, none, (.bslice 1 [(.t 10), (.t 17)])⟩, ⟨some 19, none, (.call (.c (.fn (.func 126) [] [])) [(.t 18)])⟩, ⟨some 5, none, (.take 19)⟩])
 (.seq
 (.reg false [2, 3, 5, 21] [
 ⟨some 20, none, (.mov (.t 5))⟩, ⟨some 21, none, (.bin .neq (.t 20) (.c (.int .i64 0)))⟩])
 (.cond (.t 21)
 (.seq
 (.reg false [4] [
 ⟨some 22, none, (.mov (.t 5))⟩, ⟨some 4, none, (.mov (.t 22))⟩])
 .ret)
 .skip)))
 (.seq
 (.reg false [4] [
 ⟨some 23, none, (.fptr 1 (.t 2))⟩, ⟨some 24, none, (.load false 1 (.t 23))⟩, ⟨some 25, none, (.fptr 1 (.t 3))⟩, ⟨some 26, none, (.load false 1 (.t 25))⟩, ⟨some 27, none, (.call (.c (.fn (.func 129) [] [])) [(.t 24), (.t 26)])⟩, ⟨some 4, none, (.mov (.t 27))⟩])
 .ret)))
theorem op_term_CompareAtom {vals : List AV} {bs : List Box} {Q : AV → List Box → Prop} (hn : vals.length ≤ 28) (h : (⟨params 0 vals, bs, bs.length⟩ : St).fo true fun s => rc_term_CompareAtom.gp Try.prog true s (retP [.slot 4] Q)) : AM.Sem Try.prog 106 vals bs Q :=
  Sem.nrm (Sem.of (fn := Try.f106) (keeps := [(0, [2, 3]), (1, [2, 3, 5]), (2, [2, 3, 5, 21]), (3, [4]), (4, [4])]) (solo := []) Try.func106 rfl (by kernel_rfl) (by kernel_rfl) (by kernel_rfl) hn (run_gp h))

def rc_term_Compare : RC :=
 (.seq
 (.reg false [2, 3] [
 ⟨some 2, none, (.box (.t 0))⟩, ⟨some 3, none, (.box (.t 1))⟩, ⟨some 4, none, (.mov (.c (.int .i64 0)))⟩])
 (.seq
 (.seq
 (.reg true [2, 3, 5] [
 ⟨some 8, none, (.fptr 0 (.t 2))⟩, ⟨some 9, none, (.load false 1 (.t 8))⟩, ⟨some 10, none, (.call (.c (.fn (.func 140) [] [])) [(.t 9)])⟩, ⟨some 11, none, (.fptr 0 (.t 3))⟩, ⟨some 12, none, (.load false 1 (.t 11))⟩, ⟨some 13, none, (.call (.c (.fn (.func 140) [] [])) [(.t 12)])⟩, ⟨some 14, none, (.call (.c (.fn (.func 128) [] [])) [(.t 10), (.t 13)])⟩, ⟨some 5, none, (.take 14)⟩])
 (.seq
 (.reg false [2, 3, 5, 16] [
 ⟨some 15, none, (.mov (.t 5))⟩, ⟨some 16, none, (.bin .neq (.t 15) (.c (.int .i64 0)))⟩])
 (.cond (.t 16)
 (.seq
 (.reg false [4] [
 ⟨some 17, none, (.mov (.t 5))⟩, ⟨some 4, none, (.mov (.t 17))⟩])
 .ret)
 .skip)))
 (.seq
 (.seq
 (.reg false [2, 3, 20] [
 ⟨some 18, none, (.fptr 0 (.t 2))⟩, ⟨some 19, none, (.load false 1 (.t 18))⟩, ⟨some 20, none, (.call (.c (.fn (.func 140) [] [])) [(.t 19)])⟩])
 (.block 0
 (.seq
 (.seq
 (.reg false [2, 3, 20, 21] [
 ⟨some 22, none, (.bin .eql (.t 20) (.c (.int .i64 0)))⟩, ⟨some 21, none, (.mov (.t 22))⟩])
 (.cond (.t 21)
 .skip
 (.reg false [2, 3, 20, 21] [
 ⟨some 23, none, (.bin .eql (.t 20) (.c (.int .i64 1)))⟩, ⟨some 21, none, (.mov (.t 23))⟩])))
 (.cond (.t 21)
 (.seq
 (.reg false [4] [
 ⟨some 24, none, (.fptr 1 (.t 2))⟩, ⟨some 25, none, (.load false 1 (.t 24))⟩, ⟨some 26, none, (.fptr 1 (.t 3))⟩, ⟨some 27, none, (.load false 1 (.t 26))⟩, ⟨some 28, none, (.call (.c (.fn (.func 128) [] [])) [(.t 25), (.t 27)])⟩, ⟨some 4, none, (.mov (.t 28))⟩])
 .ret)
 (.seq
 (.reg false [2, 3, 29] [
 ⟨some 30, none, (.bin .eql (.t 20) (.c (.int .i64 2)))⟩, ⟨some 29, none, (.mov (.t 30))⟩])
 (.cond (.t 29)
 (.seq
 (.seq
 (.reg false [2, 3, 6] [
 ⟨some 31, none, (.fptr 3 (.t 2))⟩, ⟨some 32, none, (.load false 1 (.t 31))⟩, ⟨some 33, none, (.len false (.t 32))⟩, ⟨some 34, none, (.fptr 3 (.t 3))⟩, ⟨some 35, none, (.load false 1 (.t 34))⟩, ⟨some 36, none, (.len false (.t 35))⟩, ⟨some 37, none, (.call (.c (.fn (.func 128) [] [])) [(.t 33), (.t 36)])⟩, ⟨some 6, none, (.mov (.t 37))⟩])
 (.seq
 (.reg false [2, 3, 6, 39] [
 ⟨some 38, none, (.mov (.t 6))⟩, ⟨some 39, none, (.bin .neq (.t 38) (.c (.int .i64 0)))⟩])
 (.cond (.t 39)
 (.seq
 (.reg false [4] [
 ⟨some 40, none, (.mov (.t 6))⟩, ⟨some 4, none, (.mov (.t 40))⟩])
 .ret)
 .skip)))
 (.seq
 (.seq
 (.reg false [2, 3, 7] [
 ⟨some 41, none, (.fptr 2 (.t 2))⟩, ⟨some 42, none, (.load false 1 (.t 41))⟩, ⟨some 43, none, (.fptr 2 (.t 3))⟩, ⟨some 44, none, (.load false 1 (.t 43))⟩, ⟨some 45, none, (.call (.c (.fn (.func 127) [] [])) [(.t 42), (.t 44)])⟩, ⟨some 7, none, (.mov (.t 45))⟩])
 (.seq
 (.reg false [2, 3, 7, 47] [
 ⟨some 46, none, (.mov (.t 7))⟩, ⟨some 47, none, (.bin .neq (.t 46) (.c (.int .i64 0)))⟩])
 (.cond (.t 47)
 (.seq
 (.reg false [4] [
 ⟨some 48, none, (.mov (.t 7))⟩, ⟨some 4, none, (.mov (.t 48))⟩])
 .ret)
 .skip)))
 (.seq
 (.reg false [4] [
 ⟨some 49, none, (.fptr 3 (.t 2))⟩, ⟨some 50, none, (.load false 1 (.t 49))⟩, ⟨some 51, none, (.fptr 3 (.t 3))⟩, ⟨some 52, none, (.load false 1 (.t 51))⟩, ⟨some 53, none, (.call (.c (.fn (.func 129) [] [])) [(.t 50), (.t 52)])⟩, ⟨some 4, none, (.mov (.t 53))⟩])
 .ret)))
 .skip))))))
 (.seq
 (.reg true [4] [
 ⟨some 54, none, (.fptr 0 (.t 2))⟩, ⟨some 55, none, (.load false 1 (.t 54))⟩, ⟨some 56, none, (.fptr 0 (.t 3))⟩, ⟨some 57, none, (.load false 1 (.t 56))⟩, ⟨some 58, none, (.call (.c (.fn (.func 128) [] [])) [(.t 55), (.t 57)])⟩, ⟨some 59, none, (.fptr 1 (.t 2))⟩, ⟨some 60, none, (.load false 1 (.t 59))⟩, ⟨some 61, none, (.fptr 1 (.t 3))⟩, ⟨some 62, none, (.load false 1 (.t 61))⟩, ⟨some 63, none, (.call (.c (.fn (.func 128) [] [])) [(.t 60), (.t 62)])⟩, ⟨some 64, none, (.fptr 2 (.t 2))⟩, ⟨some 65, none, (.load false 1 (.t 64))⟩, ⟨some 66, none, (.fptr 2 (.t 3))⟩, ⟨some 67, none, (.load false 1 (.t 66))⟩, ⟨some 68, none, (.call (.c (.fn (.func 127) [] [])) [(.t 65), (.t 67)])⟩, ⟨some 69, none, (.bslice 1 [(.t 58), (.t 63), (.t 68)])⟩, ⟨some 70, none, (.call (.c (.fn (.func 126) [] [])) [(.t 69)])⟩, ⟨some 4, none, (.take 70)⟩])
 .ret))))
theorem op_term_Compare {vals : List AV} {bs : List Box} {Q : AV → List Box → Prop} (hn : vals.length ≤ 71) (h : (⟨params 0 vals, bs, bs.length⟩ : St).fo true fun s => rc_term_Compare.gp Try.prog true s (retP [.slot 4] Q)) : AM.Sem Try.prog 138 vals bs Q :=
  Sem.nrm (Sem.of (fn := Try.f138) (keeps := [(0, [2, 3]), (1, [2, 3, 5]), (2, [2, 3, 5, 16]), (3, [4]), (4, [2, 3, 20]), (5, [2, 3, 20, 21]), (6, [2, 3, 20, 21]), (8, [2, 3, 29]), (9, [2, 3, 6]), (10, [2, 3, 6, 39]), (11, [4]), (12, [2, 3, 7]), (13, [2, 3, 7, 47]), (14, [4]), (15, [4]), (7, [4]), (16, [4])]) (solo := []) Try.func138 rfl (by kernel_rfl) (by kernel_rfl) (by kernel_rfl) hn (run_gp h))

def rc_term_args : RC :=
 (.seq
 (.reg false [1] [
 ⟨some 1, none, (.box (.t 0))⟩, ⟨some 2, none, (.mov (.c (.sl .full [])))⟩])
 (.seq
 (.seq
 (.reg false [1, 5] [
 ⟨some 3, none, (.fptr 0 (.t 1))⟩, ⟨some 4, none, (.load false 1 (.t 3))⟩, ⟨some 5, none, (.bin .eql (.t 4) (.c (.int .i64 2)))⟩])
 (.cond (.t 5)
 (.seq
 (.reg false [2] [
 ⟨some 6, none, (.fptr 3 (.t 1))⟩, ⟨some 7, none, (.load false 1 (.t 6))⟩, ⟨some 2, none, (.mov (.t 7))⟩])
 .ret)
 .skip))
 (.seq
 (.reg false [2] [
 ⟨some 2, none, (.mov (.c (.sl .full [])))⟩])
 .ret)))
theorem op_term_args {vals : List AV} {bs : List Box} {Q : AV → List Box → Prop} (hn : vals.length ≤ 8) (h : (⟨params 0 vals, bs, bs.length⟩ : St).fo true fun s => rc_term_args.gp Try.prog true s (retP [.slot 2] Q)) : AM.Sem Try.prog 130 vals bs Q :=
  Sem.nrm (Sem.of (fn := Try.f130) (keeps := [(0, [1]), (1, [1, 5]), (2, [2]), (3, [2])]) (solo := []) Try.func130 rfl (by kernel_rfl) (by kernel_rfl) (by kernel_rfl) hn (run_gp h))

def rc_term_list : RC :=
 (.seq
 (.reg false [0, 1] [
 ⟨some 4, none, (.mov (.c (.int .i64 0)))⟩])
 (.seq
 (.seq
 (.reg false [0, 1, 8, 9] [
 ⟨some 7, none, (.mov (.t 0))⟩, ⟨some 8, none, (.len false (.t 7))⟩, ⟨some 9, none, (.mov (.c (.int .i64 0)))⟩])
 (.block 0
 (.loop
 (.seq
 (.reg false [0, 1, 8, 9, 10] [
 ⟨some 10, none, (.bin .lss (.t 9) (.t 8))⟩])
 (.seq
 (.cond (.t 10)
 .skip
 (.exit 0))
 (.seq
 (.block 1
 (.seq
 (.reg false [0, 1, 5, 8, 9] [
 ⟨some 11, none, (.mov (.t 9))⟩, ⟨some 5, none, (.mov (.t 11))⟩])
 (.seq
 (.reg true [0, 1, 6, 8, 9] [
 ⟨some 12, none, (.mov (.t 0))⟩, ⟨some 13, none, (.mov (.t 5))⟩, ⟨some 14, none, (.idx 4 (.t 12) (.t 13))⟩, ⟨some 15, none, (.load true 4 (.t 14))⟩, ⟨some 16, none, (.mov (.t 1))⟩, ⟨some 17, none, (.mov (.t 5))⟩, ⟨some 18, none, (.idx 4 (.t 16) (.t 17))⟩, ⟨some 19, none, (.load true 4 (.t 18))⟩, ⟨some 20, none, (.call (.c (.fn (.func 138) [] [])) [(.t 15), (.t 19)])⟩, ⟨some 6, none, (.take 20)⟩])
 (.seq
 (.reg false [0, 1, 6, 8, 9, 22] [
 ⟨some 21, none, (.mov (.t 6))⟩, ⟨some 22, none, (.bin .neq (.t 21) (.c (.int .i64 0)))⟩])
 (.cond (.t 22)
 (.seq
 (.reg false [4] [
 ⟨some 23, none, (.mov (.t 6))⟩, ⟨some 4, none, (.mov (.t 23))⟩])
 .ret)
 .skip)))))
 (.reg false [0, 1, 8, 9] [
 ⟨some 24, none, (.bin .add (.t 9) (.c (.int .i64 1)))⟩, ⟨some 9, none, (.mov (.t 24))⟩])))))))
 (.seq
 (.reg false [4] [
 ⟨some 4, none, (.mov (.c (.int .i64 0)))⟩])
 .ret)))
theorem op_term_list {vals : List AV} {bs : List Box} {Q : AV → List Box → Prop} (hn : vals.length ≤ 25) (h : (⟨params 0 vals, bs, bs.length⟩ : St).fo true fun s => rc_term_list.gp Try.prog true s (retP [.slot 4] Q)) : AM.Sem Try.prog 129 vals bs Q :=
  Sem.nrm (Sem.of (fn := Try.f129) (keeps := [(0, [0, 1]), (1, [0, 1, 8, 9]), (2, [0, 1, 8, 9, 10]), (3, [0, 1, 5, 8, 9]), (4, [0, 1, 6, 8, 9]), (5, [0, 1, 6, 8, 9, 22]), (6, [4]), (7, [0, 1, 8, 9]), (8, [4])]) (solo := []) Try.func129 rfl (by kernel_rfl) (by kernel_rfl) (by kernel_rfl) hn (run_gp h))

def rc_term_rank : RC :=
 (.seq
 (.reg false [0] [
 ⟨some 2, none, (.mov (.c (.int .i64 0)))⟩])
 (.seq
 (.seq
 (.reg false [3] [
 ⟨some 3, none, (.mov (.t 0))⟩])
 (.block 0
 (.seq
 (.reg false [3, 4] [
 ⟨some 5, none, (.bin .eql (.t 3) (.c (.int .i64 1)))⟩, ⟨some 4, none, (.mov (.t 5))⟩])
 (.cond (.t 4)
 (.seq
 (.reg false [2] [
 ⟨some 2, none, (.mov (.c (.int .i64 0)))⟩])
 .ret)
 (.seq
 (.reg false [3, 6] [
 ⟨some 7, none, (.bin .eql (.t 3) (.c (.int .i64 0)))⟩, ⟨some 6, none, (.mov (.t 7))⟩])
 (.cond (.t 6)
 (.seq
 (.reg false [2] [
 ⟨some 2, none, (.mov (.c (.int .i64 1)))⟩])
 .ret)
 (.seq
 (.reg false [8] [
 ⟨some 9, none, (.bin .eql (.t 3) (.c (.int .i64 2)))⟩, ⟨some 8, none, (.mov (.t 9))⟩])
 (.cond (.t 8)
 (.seq
 (.reg false [2] [
 ⟨some 2, none, (.mov (.c (.int .i64 2)))⟩])
 .ret)
 .skip))))))))
 (.seq
 (.reg false [2] [
 ⟨some 2, none, (.mov (.c (.int .i64 3)))⟩])
 .ret)))
theorem op_term_rank {vals : List AV} {bs : List Box} {Q : AV → List Box → Prop} (hn : vals.length ≤ 10) (h : (⟨params 0 vals, bs, bs.length⟩ : St).fo true fun s => rc_term_rank.gp Try.prog true s (retP [.slot 2] Q)) : AM.Sem Try.prog 140 vals bs Q :=
  Sem.nrm (Sem.of (fn := Try.f140) (keeps := [(0, [0]), (1, [3]), (2, [3, 4]), (4, [3, 6]), (6, [8]), (7, [2]), (5, [2]), (3, [2]), (8, [2])]) (solo := []) Try.func140 rfl (by kernel_rfl) (by kernel_rfl) (by kernel_rfl) hn (run_gp h))

def rc_term_AtomVars : RC :=
 (.seq
 (.reg false [1] [
 ⟨some 1, none, (.box (.t 0))⟩, ⟨some 2, none, (.mov (.c (.sl .full [])))⟩])
 (.seq
 (.reg false [2] [
 ⟨some 3, none, (.fptr 1 (.t 1))⟩, ⟨some 4, none, (.load false 1 (.t 3))⟩, ⟨some 5, none, (.call (.c (.fn (.func 91) [] [])) [(.t 4)])⟩, ⟨some 6, none, (.call (.c (.fn (.func 90) [] [])) [(.t 5)])⟩, ⟨some 2, none, (.mov (.t 6))⟩])
 .ret))
theorem op_term_AtomVars {vals : List AV} {bs : List Box} {Q : AV → List Box → Prop} (hn : vals.length ≤ 7) (h : (⟨params 0 vals, bs, bs.length⟩ : St).fo true fun s => rc_term_AtomVars.gp Try.prog true s (retP [.slot 2] Q)) : AM.Sem Try.prog 55 vals bs Q :=
  Sem.nrm (Sem.of (fn := Try.f55) (keeps := [(0, [1]), (1, [2])]) (solo := []) Try.func55 rfl (by kernel_rfl) (by kernel_rfl) (by kernel_rfl) hn (run_gp h))

def rc_term_once : RC :=
 (.seq
 (.reg false [0, 2] [
 ⟨some 2, none, (.mov (.c (.sl .full [])))⟩])
 (.seq
 (.reg false [0, 2, 3] [
 ⟨some 3, none, (.box (.c (.sl .full [])))⟩])
 (.seq
 (.reg false [0, 2, 3, 4] [
 ⟨some 6, none, (.eff .mkM [])⟩, ⟨some 4, none, (.box (.c .nmp))⟩, ⟨none, none, (.store 1 (.t 4) (.t 6))⟩])
 (.seq
 (.seq
 (.reg false [2, 3, 4, 7] [
 ⟨some 7, none, (.mov (.t 0))⟩])
 (.block 0
 (.range (.t 7) [8]
 (.reg false [3, 4, 5] [
 ⟨some 5, none, (.mov (.t 8))⟩])
 (.block 1
 (.seq
 (.reg false [3, 4, 5, 12] [
 ⟨some 9, none, (.load false 1 (.t 4))⟩, ⟨some 10, none, (.mov (.t 5))⟩, ⟨some 11, none, (.eff (.getM false (.bool false)) [(.t 9), (.t 10)])⟩, ⟨some 12, none, (.un .not (.t 11))⟩])
 (.cond (.t 12)
 (.seq
 (.reg false [3, 5] [
 ⟨some 13, none, (.load false 1 (.t 4))⟩, ⟨some 14, none, (.mov (.t 5))⟩, ⟨none, none, (.eff .setM [(.t 13), (.t 14), (.c (.bool true))])⟩])
 (.reg false [] [
 ⟨some 15, none, (.load false 1 (.t 3))⟩, ⟨some 16, none, (.mov (.t 5))⟩, ⟨some 17, none, (.bslice 1 [(.t 16)])⟩, ⟨some 18, none, (.append 1 (.t 15) (.t 17))⟩, ⟨none, none, (.store 1 (.t 3) (.t 18))⟩]))
 .skip))))))
 (.seq
 (.reg false [2] [
 ⟨some 19, none, (.load false 1 (.t 3))⟩, ⟨some 2, none, (.mov (.t 19))⟩])
 .ret)))))
theorem op_term_once {vals : List AV} {bs : List Box} {Q : AV → List Box → Prop} (hn : vals.length ≤ 20) (h : (⟨params 0 vals, bs, bs.length⟩ : St).fo true fun s => rc_term_once.gp Try.prog true s (retP [.slot 2] Q)) : AM.Sem Try.prog 90 vals bs Q :=
  Sem.nrm (Sem.of (fn := Try.f90) (keeps := [(0, [0, 2]), (1, [0, 2, 3]), (2, [0, 2, 3, 4]), (3, [2, 3, 4, 7]), (4, [3, 4, 5]), (5, [3, 4, 5, 12]), (6, [3, 5]), (7, []), (8, [2])]) (solo := []) Try.func90 rfl (by kernel_rfl) (by kernel_rfl) (by kernel_rfl) hn (run_gp h))

def rc_term_each : RC :=
 (.seq
 (.reg false [1] [
 ⟨some 1, none, (.box (.t 0))⟩, ⟨some 2, none, (.mov (.c .nfn))⟩])
 (.seq
 (.reg false [2] [
 ⟨some 3, none, (.mkfn (.func 108) [] [(.t 1)])⟩, ⟨some 2, none, (.mov (.t 3))⟩])
 .ret))
theorem op_term_each {vals : List AV} {bs : List Box} {Q : AV → List Box → Prop} (hn : vals.length ≤ 4) (h : (⟨params 0 vals, bs, bs.length⟩ : St).fo true fun s => rc_term_each.gp Try.prog true s (retP [.slot 2] Q)) : AM.Sem Try.prog 91 vals bs Q :=
  Sem.nrm (Sem.of (fn := Try.f91) (keeps := [(0, [1]), (1, [2])]) (solo := []) Try.func91 rfl (by kernel_rfl) (by kernel_rfl) (by kernel_rfl) hn (run_gp h))

def rc_term_Vars : RC :=
 (.seq
 (.reg false [1] [
 ⟨some 1, none, (.box (.t 0))⟩, ⟨some 2, none, (.mov (.c (.sl .full [])))⟩])
 (.seq
 (.reg false [2] [
 ⟨some 3, none, (.load true 4 (.t 1))⟩, ⟨some 4, none, (.bslice 4 [(.t 3)])⟩, ⟨some 5, none, (.call (.c (.fn (.func 91) [] [])) [(.t 4)])⟩, ⟨some 6, none, (.call (.c (.fn (.func 90) [] [])) [(.t 5)])⟩, ⟨some 2, none, (.mov (.t 6))⟩])
 .ret))
theorem op_term_Vars {vals : List AV} {bs : List Box} {Q : AV → List Box → Prop} (hn : vals.length ≤ 7) (h : (⟨params 0 vals, bs, bs.length⟩ : St).fo true fun s => rc_term_Vars.gp Try.prog true s (retP [.slot 2] Q)) : AM.Sem Try.prog 57 vals bs Q :=
  Sem.nrm (Sem.of (fn := Try.f57) (keeps := [(0, [1]), (1, [2])]) (solo := []) Try.func57 rfl (by kernel_rfl) (by kernel_rfl) (by kernel_rfl) hn (run_gp h))

def rc_term_each_1 : RC :=
 (.seq
 (.reg false [0, 1, 5, 6] [
 ⟨some 4, none, (.load false 1 (.t 1))⟩, ⟨some 5, none, (.len false (.t 4))⟩, ⟨some 6, none, (.mov (.c (.int .i64 0)))⟩])
 (.block 0
 (.loop
 (.seq
 (.reg false [0, 1, 5, 6, 7] [
 ⟨some 7, none, (.bin .lss (.t 6) (.t 5))⟩])
 (.seq
 (.cond (.t 7)
 .skip
 (.exit 0))
 (.seq
 (.block 1
 (.seq
 (.reg false [0, 1, 3, 5, 6] [
 ⟨some 8, none, (.mov (.t 6))⟩, ⟨some 3, none, (.mov (.t 8))⟩])
 (.seq
 (.reg false [0, 1, 5, 6, 15] [
 ⟨some 9, none, (.load false 1 (.t 1))⟩, ⟨some 10, none, (.mov (.t 3))⟩, ⟨some 11, none, (.idx 4 (.t 9) (.t 10))⟩, ⟨some 12, none, (.load true 4 (.t 11))⟩, ⟨some 13, none, (.mov (.t 0))⟩, ⟨some 14, none, (.call (.c (.fn (.func 109) [] [])) [(.t 12), (.t 13)])⟩, ⟨some 15, none, (.un .not (.t 14))⟩])
 (.cond (.t 15)
 .ret
 .skip))))
 (.reg false [0, 1, 5, 6] [
 ⟨some 16, none, (.bin .add (.t 6) (.c (.int .i64 1)))⟩, ⟨some 6, none, (.mov (.t 16))⟩])))))))
theorem op_term_each_1 {vals : List AV} {bs : List Box} {Q : AV → List Box → Prop} (hn : vals.length ≤ 17) (h : (⟨params 0 vals, bs, bs.length⟩ : St).fo true fun s => rc_term_each_1.gp Try.prog true s (retP [] Q)) : AM.Sem Try.prog 108 vals bs Q :=
  Sem.nrm (Sem.of (fn := Try.f108) (keeps := [(0, [0, 1, 5, 6]), (1, [0, 1, 5, 6, 7]), (2, [0, 1, 3, 5, 6]), (3, [0, 1, 5, 6, 15]), (4, [0, 1, 5, 6])]) (solo := []) Try.func108 rfl (by kernel_rfl) (by kernel_rfl) (by kernel_rfl) hn (run_gp h))

def rc_term_walk : RC :=
 (.seq
 (.reg false [1, 2] [
 ⟨some 2, none, (.box (.t 0))⟩, ⟨some 4, none, (.mov (.c (.bool false)))⟩])
 (.seq
 (.seq
 (.reg false [1, 2, 9] [
 ⟨some 7, none, (.fptr 0 (.t 2))⟩, ⟨some 8, none, (.load false 1 (.t 7))⟩, ⟨some 9, none, (.bin .eql (.t 8) (.c (.int .i64 1)))⟩])
 (.cond (.t 9)
 (.seq
 (.reg false [4] [
 ⟨some 10, none, (.mov (.t 1))⟩, ⟨some 11, none, (.fptr 1 (.t 2))⟩, ⟨some 12, none, (.load false 1 (.t 11))⟩, ⟨some 13, none, (.callv (.t 10) [(.t 12)])⟩, ⟨some 4, none, (.mov (.t 13))⟩])
 .ret)
 .skip))
 (.seq
 (.seq
 (.reg false [1, 15, 16, 17] [
 ⟨some 14, none, (.load true 4 (.t 2))⟩, ⟨some 15, none, (.call (.c (.fn (.func 130) [] [])) [(.t 14)])⟩, ⟨some 16, none, (.len false (.t 15))⟩, ⟨some 17, none, (.mov (.c (.int .i64 0)))⟩])
 (.block 0
 (.loop
 (.seq
 (.reg false [1, 15, 16, 17, 18] [
 ⟨some 18, none, (.bin .lss (.t 17) (.t 16))⟩])
 (.seq
 (.cond (.t 18)
 .skip
 (.exit 0))
 (.seq
 (.block 1
 (.seq
 (.reg false [1, 6, 15, 16, 17] [
 ⟨some 19, none, (.idx 4 (.t 15) (.t 17))⟩, ⟨some 20, none, (.load true 4 (.t 19))⟩, ⟨some 6, none, (.box (.c (.agg [(.int .i64 0), (.int .i64 0), (.str ⟨⟨[]⟩⟩), (.sl .full [])])))⟩, ⟨none, none, (.store 4 (.t 6) (.t 20))⟩])
 (.seq
 (.reg false [1, 15, 16, 17, 24] [
 ⟨some 21, none, (.load true 4 (.t 6))⟩, ⟨some 22, none, (.mov (.t 1))⟩, ⟨some 23, none, (.call (.c (.fn (.func 109) [] [])) [(.t 21), (.t 22)])⟩, ⟨some 24, none, (.un .not (.t 23))⟩])
 (.cond (.t 24)
 (.seq
 (.reg false [4] [
 ⟨some 4, none, (.mov (.c (.bool false)))⟩])
 .ret)
 .skip))))
 (.reg false [1, 15, 16, 17] [
 ⟨some 25, none, (.bin .add (.t 17) (.c (.int .i64 1)))⟩, ⟨some 17, none, (.mov (.t 25))⟩])))))))
 (.seq
 (.reg false [4] [
 ⟨some 4, none, (.mov (.c (.bool true)))⟩])
 .ret))))
theorem op_term_walk {vals : List AV} {bs : List Box} {Q : AV → List Box → Prop} (hn : vals.length ≤ 26) (h : (⟨params 0 vals, bs, bs.length⟩ : St).fo true fun s => rc_term_walk.gp Try.prog true s (retP [.slot 4] Q)) : AM.Sem Try.prog 109 vals bs Q :=
  Sem.nrm (Sem.of (fn := Try.f109) (keeps := [(0, [1, 2]), (1, [1, 2, 9]), (2, [4]), (3, [1, 15, 16, 17]), (4, [1, 15, 16, 17, 18]), (5, [1, 6, 15, 16, 17]), (6, [1, 15, 16, 17, 24]), (7, [4]), (8, [1, 15, 16, 17]), (9, [4])]) (solo := []) Try.func109 rfl (by kernel_rfl) (by kernel_rfl) (by kernel_rfl) hn (run_gp h))

def rc_constraintref03_vars : RC :=
 (.seq
 (.reg false [0, 3] [
 ⟨some 3, none, (.box (.t 1))⟩, ⟨some 4, none, (.mov (.c (.sl .full [])))⟩])
 (.seq
 (.seq
 (.reg false [0, 3, 16] [
 ⟨some 7, none, (.fptr 0 (.t 3))⟩, ⟨some 8, none, (.load false 1 (.t 7))⟩, ⟨some 9, none, (.bin .eql (.t 8) (.c (.int .i64 1)))⟩, ⟨some 10, none, (.mov (.t 9))⟩, ⟨some 11, some (10, true), (.mov (.t 0))⟩, ⟨some 12, some (10, true), (.fptr 1 (.t 3))⟩, ⟨some 13, some (10, true), (.load false 1 (.t 12))⟩, ⟨some 14, some (10, true), (.call (.c (.fn (.func 110) [] [])) [(.t 11), (.t 13)])⟩, ⟨some 15, some (10, true), (.un .not (.t 14))⟩, ⟨some 16, none, (.pick (.t 10) (.t 15) (.c (.bool false)))⟩])
 (.cond (.t 16)
 (.reg false [0, 3] [
 ⟨some 17, none, (.mov (.t 0))⟩, ⟨some 18, none, (.fptr 1 (.t 3))⟩, ⟨some 19, none, (.load false 1 (.t 18))⟩, ⟨some 20, none, (.bslice 1 [(.t 19)])⟩, ⟨some 21, none, (.eff (.appB 1) [(.t 17), (.t 20)])⟩, ⟨some 0, none, (.mov (.t 21))⟩])
 .skip))
 (.seq
 (.reg false [0, 5] [
 ⟨some 22, none, (.load true 4 (.t 3))⟩, ⟨some 23, none, (.call (.c (.fn (.func 111) [] [])) [(.t 22)])⟩, ⟨some 5, none, (.mov (.t 23))⟩])
 (.seq
 (.seq
 (.reg false [0, 5, 6] [
 ⟨some 6, none, (.mov (.c (.int .i64 0)))⟩])
 (.block 0
 (.loop
 (.seq
 (.seq
 (.reg false [0, 5, 6, 27] [
 ⟨some 24, none, (.mov (.t 6))⟩, ⟨some 25, none, (.mov (.t 5))⟩, ⟨some 26, none, (.len false (.t 25))⟩, ⟨some 27, none, (.bin .lss (.t 24) (.t 26))⟩])
 (.cond (.t 27)
 .skip
 (.exit 0)))
 (.seq
 (.block 1
 (.reg false [0, 5, 6] [
 ⟨some 30, none, (.mov (.t 0))⟩, ⟨some 31, none, (.mov (.t 5))⟩, ⟨some 32, none, (.mov (.t 6))⟩, ⟨some 33, none, (.idx 4 (.t 31) (.t 32))⟩, ⟨some 34, none, (.load true 4 (.t 33))⟩, ⟨some 35, none, (.call (.c (.fn (.func 93) [] [])) [(.t 30), (.t 34)])⟩, ⟨some 0, none, (.mov (.t 35))⟩]))
 (.reg false [0, 5, 6] [
 ⟨some 28, none, (.mov (.t 6))⟩, ⟨some 29, none, (.bin .add (.t 28) (.c (.int .i64 1)))⟩, ⟨some 6, none, (.mov (.t 29))⟩]))))))
 (.seq
 (.reg false [4] [
 ⟨some 36, none, (.mov (.t 0))⟩, ⟨some 4, none, (.mov (.t 36))⟩])
 .ret)))))
theorem op_constraintref03_vars {vals : List AV} {bs : List Box} {Q : AV → List Box → Prop} (hn : vals.length ≤ 37) (h : (⟨params 0 vals, bs, bs.length⟩ : St).fo true fun s => rc_constraintref03_vars.gp Try.prog true s (retP [.slot 4] Q)) : AM.Sem Try.prog 93 vals bs Q :=
  Sem.nrm (Sem.of (fn := Try.f93) (keeps := [(0, [0, 3]), (1, [0, 3, 16]), (2, [0, 3]), (3, [0, 5]), (4, [0, 5, 6]), (5, [0, 5, 6, 27]), (7, [0, 5, 6]), (6, [0, 5, 6]), (8, [4]), (1000000, [21])]) (solo := []) Try.func93 rfl (by kernel_rfl) (by kernel_rfl) (by kernel_rfl) hn (run_gp h))

def rc_constraintref03_VarsOf : RC :=
 (.seq
 (.reg false [0] [
 ⟨some 2, none, (.mov (.c (.sl .full [])))⟩])
 (.seq
 (.reg false [0, 3] [
 ⟨some 3, none, (.mov (.c (.sl .full [])))⟩])
 (.seq
 (.seq
 (.reg false [0, 3, 4] [
 ⟨some 4, none, (.mov (.c (.int .i64 0)))⟩])
 (.block 0
 (.loop
 (.seq
 (.seq
 (.reg false [0, 3, 4, 8] [
 ⟨some 5, none, (.mov (.t 4))⟩, ⟨some 6, none, (.mov (.t 0))⟩, ⟨some 7, none, (.len false (.t 6))⟩, ⟨some 8, none, (.bin .lss (.t 5) (.t 7))⟩])
 (.cond (.t 8)
 .skip
 (.exit 0)))
 (.seq
 (.block 1
 (.reg false [0, 3, 4] [
 ⟨some 11, none, (.mov (.t 3))⟩, ⟨some 12, none, (.mov (.t 0))⟩, ⟨some 13, none, (.mov (.t 4))⟩, ⟨some 14, none, (.idx 4 (.t 12) (.t 13))⟩, ⟨some 15, none, (.load true 4 (.t 14))⟩, ⟨some 16, none, (.call (.c (.fn (.func 93) [] [])) [(.t 11), (.t 15)])⟩, ⟨some 3, none, (.mov (.t 16))⟩]))
 (.reg false [0, 3, 4] [
 ⟨some 9, none, (.mov (.t 4))⟩, ⟨some 10, none, (.bin .add (.t 9) (.c (.int .i64 1)))⟩, ⟨some 4, none, (.mov (.t 10))⟩]))))))
 (.seq
 (.reg false [2] [
 ⟨some 17, none, (.mov (.t 3))⟩, ⟨some 2, none, (.mov (.t 17))⟩])
 .ret))))
theorem op_constraintref03_VarsOf {vals : List AV} {bs : List Box} {Q : AV → List Box → Prop} (hn : vals.length ≤ 18) (h : (⟨params 0 vals, bs, bs.length⟩ : St).fo true fun s => rc_constraintref03_VarsOf.gp Try.prog true s (retP [.slot 2] Q)) : AM.Sem Try.prog 60 vals bs Q :=
  Sem.nrm (Sem.of (fn := Try.f60) (keeps := [(0, [0]), (1, [0, 3]), (2, [0, 3, 4]), (3, [0, 3, 4, 8]), (5, [0, 3, 4]), (4, [0, 3, 4]), (6, [2])]) (solo := []) Try.func60 rfl (by kernel_rfl) (by kernel_rfl) (by kernel_rfl) hn (run_gp h))

def rc_constraintref03_Vars : RC :=
 (.seq
 (.reg false [1] [
 ⟨some 1, none, (.box (.t 0))⟩, ⟨some 2, none, (.mov (.c (.sl .full [])))⟩])
 (.seq
 (.reg false [2] [
 ⟨some 3, none, (.load true 4 (.t 1))⟩, ⟨some 4, none, (.call (.c (.fn (.func 93) [] [])) [(.c (.sl .full [])), (.t 3)])⟩, ⟨some 2, none, (.mov (.t 4))⟩])
 .ret))
theorem op_constraintref03_Vars {vals : List AV} {bs : List Box} {Q : AV → List Box → Prop} (hn : vals.length ≤ 5) (h : (⟨params 0 vals, bs, bs.length⟩ : St).fo true fun s => rc_constraintref03_Vars.gp Try.prog true s (retP [.slot 2] Q)) : AM.Sem Try.prog 62 vals bs Q :=
  Sem.nrm (Sem.of (fn := Try.f62) (keeps := [(0, [1]), (1, [2])]) (solo := []) Try.func62 rfl (by kernel_rfl) (by kernel_rfl) (by kernel_rfl) hn (run_gp h))

def rc_constraintref03_SameInts : RC :=
 (.seq
 (.reg false [0, 1] [
 ⟨some 4, none, (.mov (.c (.bool false)))⟩])
 (.seq
 (.seq
 (.reg false [0, 1, 10] [
 ⟨some 6, none, (.mov (.t 0))⟩, ⟨some 7, none, (.len false (.t 6))⟩, ⟨some 8, none, (.mov (.t 1))⟩, ⟨some 9, none, (.len false (.t 8))⟩, ⟨some 10, none, (.bin .neq (.t 7) (.t 9))⟩])
 (.cond (.t 10)
 (.seq
 (.reg false [4] [
 ⟨some 4, none, (.mov (.c (.bool false)))⟩])
 .ret)
 .skip))
 (.seq
 (.seq
 (.reg false [0, 1, 5] [
 ⟨some 5, none, (.mov (.c (.int .i64 0)))⟩])
 (.block 0
 (.loop
 (.seq
 (.seq
 (.reg false [0, 1, 5, 20] [
 ⟨some 11, none, (.mov (.t 5))⟩, ⟨some 12, none, (.mov (.t 0))⟩, ⟨some 13, none, (.len false (.t 12))⟩, ⟨some 14, none, (.bin .lss (.t 11) (.t 13))⟩, ⟨some 15, none, (.mov (.t 14))⟩, ⟨some 16, some (15, true), (.mov (.t 5))⟩, ⟨some 17, some (15, true), (.mov (.t 1))⟩, ⟨some 18, some (15, true), (.len false (.t 17))⟩, ⟨some 19, some (15, true), (.bin .lss (.t 16) (.t 18))⟩, ⟨some 20, none, (.pick (.t 15) (.t 19) (.c (.bool false)))⟩])
 (.cond (.t 20)
 .skip
 (.exit 0)))
 (.seq
 (.block 1
 (.seq
 (.reg true [0, 1, 5, 31] [
 ⟨some 23, none, (.mov (.t 0))⟩, ⟨some 24, none, (.mov (.t 5))⟩, ⟨some 25, none, (.idx 1 (.t 23) (.t 24))⟩, ⟨some 26, none, (.load false 1 (.t 25))⟩, ⟨some 27, none, (.mov (.t 1))⟩, ⟨some 28, none, (.mov (.t 5))⟩, ⟨some 29, none, (.idx 1 (.t 27) (.t 28))⟩, ⟨some 30, none, (.load false 1 (.t 29))⟩, ⟨some 31, none, (.bin .neq (.t 26) (.t 30))⟩])
 (.cond (.t 31)
 (.seq
 (.reg false [4] [
 ⟨some 4, none, (.mov (.c (.bool false)))⟩])
 .ret)
 .skip)))
 (.reg false [0, 1, 5] [
 ⟨some 21, none, (.mov (.t 5))⟩, ⟨some 22, none, (.bin .add (.t 21) (.c (.int .i64 1)))⟩, ⟨some 5, none, (.mov (.t 22))⟩]))))))
 (.seq
 (.reg false [4] [
 ⟨some 4, none, (.mov (.c (.bool true)))⟩])
 .ret))))
theorem op_constraintref03_SameInts {vals : List AV} {bs : List Box} {Q : AV → List Box → Prop} (hn : vals.length ≤ 32) (h : (⟨params 0 vals, bs, bs.length⟩ : St).fo true fun s => rc_constraintref03_SameInts.gp Try.prog true s (retP [.slot 4] Q)) : AM.Sem Try.prog 16 vals bs Q :=
  Sem.nrm (Sem.of (fn := Try.f16) (keeps := [(0, [0, 1]), (1, [0, 1, 10]), (2, [4]), (3, [0, 1, 5]), (4, [0, 1, 5, 20]), (6, [0, 1, 5, 31]), (7, [4]), (5, [0, 1, 5]), (8, [4])]) (solo := []) Try.func16 rfl (by kernel_rfl) (by kernel_rfl) (by kernel_rfl) hn (run_gp h))

def rc_constraintref03_SameAtom : RC :=
 (.seq
 (.reg false [2, 3] [
 ⟨some 2, none, (.box (.t 0))⟩, ⟨some 3, none, (.box (.t 1))⟩, ⟨some 4, none, (.mov (.c (.bool false)))⟩])
 (.seq
 (.reg false [4] [
 ⟨some 5, none, (.load true 2 (.t 2))⟩, ⟨some 6, none, (.load true 2 (.t 3))⟩, ⟨some 7, none, (.call (.c (.fn (.func 105) [] [])) [(.t 5), (.t 6)])⟩, ⟨some 8, none, (.bin .eql (.t 7) (.c (.int .i64 0)))⟩, ⟨some 4, none, (.mov (.t 8))⟩])
 .ret))
theorem op_constraintref03_SameAtom {vals : List AV} {bs : List Box} {Q : AV → List Box → Prop} (hn : vals.length ≤ 9) (h : (⟨params 0 vals, bs, bs.length⟩ : St).fo true fun s => rc_constraintref03_SameAtom.gp Try.prog true s (retP [.slot 4] Q)) : AM.Sem Try.prog 85 vals bs Q :=
  Sem.nrm (Sem.of (fn := Try.f85) (keeps := [(0, [2, 3]), (1, [4])]) (solo := []) Try.func85 rfl (by kernel_rfl) (by kernel_rfl) (by kernel_rfl) hn (run_gp h))

def rc_constraintref03_GreatAtoms : RC :=
 (.seq
 (.reg false [0, 1] [
 ⟨some 4, none, (.mov (.c (.bool false)))⟩])
 (.seq
 (.seq
 (.reg false [0, 1, 5] [
 ⟨some 5, none, (.mov (.c (.int .i64 0)))⟩])
 (.block 0
 (.loop
 (.seq
 (.seq
 (.reg false [0, 1, 5, 13] [
 ⟨some 6, none, (.mov (.t 5))⟩, ⟨some 7, none, (.mov (.t 0))⟩, ⟨some 8, none, (.len false (.t 7))⟩, ⟨some 9, none, (.bin .lss (.t 6) (.t 8))⟩, ⟨some 10, none, (.mov (.t 9))⟩, ⟨some 11, some (10, true), (.mov (.t 1))⟩, ⟨some 12, some (10, true), (.bin .geq (.t 11) (.c (.int .i64 0)))⟩, ⟨some 13, none, (.pick (.t 10) (.t 12) (.c (.bool false)))⟩])
 (.cond (.t 13)
 .skip
 (.exit 0)))
 (.seq
 (.block 1
 (.reg true [0, 1, 5] [
 ⟨some 16, none, (.mov (.t 0))⟩, ⟨some 17, none, (.mov (.t 5))⟩, ⟨some 18, none, (.idx 2 (.t 16) (.t 17))⟩, ⟨some 19, none, (.fptr 1 (.t 18))⟩, ⟨some 20, none, (.load false 1 (.t 19))⟩, ⟨some 21, none, (.mov (.t 1))⟩, ⟨some 22, none, (.bin .sub (.t 21) (.c (.int .i64 1)))⟩, ⟨some 23, none, (.mov (.t 0))⟩, ⟨some 24, none, (.mov (.t 5))⟩, ⟨some 25, none, (.idx 2 (.t 23) (.t 24))⟩, ⟨some 26, none, (.fptr 0 (.t 25))⟩, ⟨some 27, none, (.load false 1 (.t 26))⟩, ⟨some 28, none, (.len true (.t 27))⟩, ⟨some 29, none, (.bin .quo (.t 28) (.c (.int .i64 8)))⟩, ⟨some 30, none, (.bin .sub (.t 22) (.t 29))⟩, ⟨some 31, none, (.call (.c (.fn (.func 104) [] [])) [(.t 20), (.t 30), (.c (.int .i64 64))])⟩, ⟨some 1, none, (.take 31)⟩]))
 (.reg false [0, 1, 5] [
 ⟨some 14, none, (.mov (.t 5))⟩, ⟨some 15, none, (.bin .add (.t 14) (.c (.int .i64 1)))⟩, ⟨some 5, none, (.mov (.t 15))⟩]))))))
 (.seq
 (.reg false [4] [
 ⟨some 32, none, (.mov (.t 1))⟩, ⟨some 33, none, (.bin .lss (.t 32) (.c (.int .i64 0)))⟩, ⟨some 4, none, (.mov (.t 33))⟩])
 .ret)))
theorem op_constraintref03_GreatAtoms {vals : List AV} {bs : List Box} {Q : AV → List Box → Prop} (hn : vals.length ≤ 34) (h : (⟨params 0 vals, bs, bs.length⟩ : St).fo true fun s => rc_constraintref03_GreatAtoms.gp Try.prog true s (retP [.slot 4] Q)) : AM.Sem Try.prog 84 vals bs Q :=
  Sem.nrm (Sem.of (fn := Try.f84) (keeps := [(0, [0, 1]), (1, [0, 1, 5]), (2, [0, 1, 5, 13]), (4, [0, 1, 5]), (3, [0, 1, 5]), (5, [4])]) (solo := []) Try.func84 rfl (by kernel_rfl) (by kernel_rfl) (by kernel_rfl) hn (run_gp h))

def rc_constraintref03_CompareAtom : RC :=
 (.seq
 (.reg false [2, 3] [
 ⟨some 2, none, (.box (.t 0))⟩, ⟨some 3, none, (.box (.t 1))⟩, ⟨some 4, none, (.mov (.c (.int .i64 0)))⟩])
 (.seq
 (.reg false [2, 3, 5] [
 ⟨some 6, none, (.fptr 0 (.t 2))⟩, ⟨some 7, none, (.load false 1 (.t 6))⟩, ⟨some 8, none, (.fptr 0 (.t 3))⟩, ⟨some 9, none, (.load false 1 (.t 8))⟩, ⟨some 10, none, (.call (.c (.fn (.func 113) [] [])) [(.t 7), (.t 9)])⟩, ⟨some 5, none, (.mov (.t 10))⟩])
 (.seq
 (.seq
 (.reg false [2, 3, 5, 12] [
 ⟨some 11, none, (.mov (.t 5))⟩, ⟨some 12, none, (.bin .eql (.t 11) (.c (.int .i64 0)))⟩])
 (.cond (.t 12)
 (.reg false [2, 3, 5] [
 ⟨some 13, none, (.fptr 1 (.t 2))⟩, ⟨some 14, none, (.load false 1 (.t 13))⟩, ⟨some 15, none, (.len false (.t 14))⟩, ⟨some 16, none, (.fptr 1 (.t 3))⟩, ⟨some 17, none, (.load false 1 (.t 16))⟩, ⟨some 18, none, (.len false (.t 17))⟩, ⟨some 19, none, (.call (.c (.fn (.func 97) [] [])) [(.t 15), (.t 18)])⟩, ⟨some 5, none, (.mov (.t 19))⟩])
 .skip))
 (.seq
 (.seq
 (.reg false [2, 3, 5, 21] [
 ⟨some 20, none, (.mov (.t 5))⟩, ⟨some 21, none, (.bin .eql (.t 20) (.c (.int .i64 0)))⟩])
 (.cond (.t 21)
 (.reg false [5] [
 ⟨some 22, none, (.fptr 1 (.t 2))⟩, ⟨some 23, none, (.load false 1 (.t 22))⟩, ⟨some 24, none, (.fptr 1 (.t 3))⟩, ⟨some 25, none, (.load false 1 (.t 24))⟩, ⟨some 26, none, (.call (.c (.fn (.func 71) [] [])) [(.t 23), (.t 25)])⟩, ⟨some 5, none, (.mov (.t 26))⟩])
 .skip))
 (.seq
 (.reg false [4] [
 ⟨some 27, none, (.mov (.t 5))⟩, ⟨some 4, none, (.mov (.t 27))⟩])
 .ret)))))
theorem op_constraintref03_CompareAtom {vals : List AV} {bs : List Box} {Q : AV → List Box → Prop} (hn : vals.length ≤ 28) (h : (⟨params 0 vals, bs, bs.length⟩ : St).fo true fun s => rc_constraintref03_CompareAtom.gp Try.prog true s (retP [.slot 4] Q)) : AM.Sem Try.prog 105 vals bs Q :=
  Sem.nrm (Sem.of (fn := Try.f105) (keeps := [(0, [2, 3]), (1, [2, 3, 5]), (2, [2, 3, 5, 12]), (3, [2, 3, 5]), (4, [2, 3, 5, 21]), (5, [5]), (6, [4])]) (solo := []) Try.func105 rfl (by kernel_rfl) (by kernel_rfl) (by kernel_rfl) hn (run_gp h))

def rc_constraintref03_Compare : RC :=
 (.seq
 (.reg false [2, 3] [
 ⟨some 2, none, (.box (.t 0))⟩, ⟨some 3, none, (.box (.t 1))⟩, ⟨some 4, none, (.mov (.c (.int .i64 0)))⟩])
 (.seq
 (.reg true [2, 3, 5] [
 ⟨some 6, none, (.load true 4 (.t 2))⟩, ⟨some 7, none, (.call (.c (.fn (.func 112) [] [])) [(.t 6)])⟩, ⟨some 8, none, (.load true 4 (.t 3))⟩, ⟨some 9, none, (.call (.c (.fn (.func 112) [] [])) [(.t 8)])⟩, ⟨some 10, none, (.call (.c (.fn (.func 97) [] [])) [(.t 7), (.t 9)])⟩, ⟨some 5, none, (.take 10)⟩])
 (.seq
 (.seq
 (.reg false [2, 3, 5, 12] [
 ⟨some 11, none, (.mov (.t 5))⟩, ⟨some 12, none, (.bin .neq (.t 11) (.c (.int .i64 0)))⟩])
 (.cond (.t 12)
 (.seq
 (.reg false [4] [
 ⟨some 13, none, (.mov (.t 5))⟩, ⟨some 4, none, (.mov (.t 13))⟩])
 .ret)
 .skip))
 (.seq
 (.seq
 (.reg false [2, 3, 15] [
 ⟨some 14, none, (.load true 4 (.t 2))⟩, ⟨some 15, none, (.call (.c (.fn (.func 112) [] [])) [(.t 14)])⟩])
 (.block 0
 (.seq
 (.seq
 (.reg false [2, 3, 15, 16] [
 ⟨some 17, none, (.bin .eql (.t 15) (.c (.int .i64 0)))⟩, ⟨some 16, none, (.mov (.t 17))⟩])
 (.cond (.t 16)
 .skip
 (.reg false [2, 3, 15, 16] [
 ⟨some 18, none, (.bin .eql (.t 15) (.c (.int .i64 1)))⟩, ⟨some 16, none, (.mov (.t 18))⟩])))
 (.cond (.t 16)
 (.seq
 (.reg false [4] [
 ⟨some 19, none, (.fptr 1 (.t 2))⟩, ⟨some 20, none, (.load false 1 (.t 19))⟩, ⟨some 21, none, (.fptr 1 (.t 3))⟩, ⟨some 22, none, (.load false 1 (.t 21))⟩, ⟨some 23, none, (.call (.c (.fn (.func 97) [] [])) [(.t 20), (.t 22)])⟩, ⟨some 4, none, (.mov (.t 23))⟩])
 .ret)
 (.seq
 (.reg false [2, 3, 24] [
 ⟨some 25, none, (.bin .eql (.t 15) (.c (.int .i64 2)))⟩, ⟨some 24, none, (.mov (.t 25))⟩])
 (.cond (.t 24)
 (.seq
 (.reg false [2, 3, 5] [
 ⟨some 26, none, (.fptr 3 (.t 2))⟩, ⟨some 27, none, (.load false 1 (.t 26))⟩, ⟨some 28, none, (.len false (.t 27))⟩, ⟨some 29, none, (.fptr 3 (.t 3))⟩, ⟨some 30, none, (.load false 1 (.t 29))⟩, ⟨some 31, none, (.len false (.t 30))⟩, ⟨some 32, none, (.call (.c (.fn (.func 97) [] [])) [(.t 28), (.t 31)])⟩, ⟨some 5, none, (.mov (.t 32))⟩])
 (.seq
 (.seq
 (.reg false [2, 3, 5, 34] [
 ⟨some 33, none, (.mov (.t 5))⟩, ⟨some 34, none, (.bin .eql (.t 33) (.c (.int .i64 0)))⟩])
 (.cond (.t 34)
 (.reg false [2, 3, 5] [
 ⟨some 35, none, (.fptr 2 (.t 2))⟩, ⟨some 36, none, (.load false 1 (.t 35))⟩, ⟨some 37, none, (.fptr 2 (.t 3))⟩, ⟨some 38, none, (.load false 1 (.t 37))⟩, ⟨some 39, none, (.call (.c (.fn (.func 113) [] [])) [(.t 36), (.t 38)])⟩, ⟨some 5, none, (.mov (.t 39))⟩])
 .skip))
 (.seq
 (.seq
 (.reg false [2, 3, 5, 41] [
 ⟨some 40, none, (.mov (.t 5))⟩, ⟨some 41, none, (.bin .eql (.t 40) (.c (.int .i64 0)))⟩])
 (.cond (.t 41)
 (.reg false [5] [
 ⟨some 42, none, (.fptr 3 (.t 2))⟩, ⟨some 43, none, (.load false 1 (.t 42))⟩, ⟨some 44, none, (.fptr 3 (.t 3))⟩, ⟨some 45, none, (.load false 1 (.t 44))⟩, ⟨some 46, none, (.call (.c (.fn (.func 71) [] [])) [(.t 43), (.t 45)])⟩, ⟨some 5, none, (.mov (.t 46))⟩])
 .skip))
 (.seq
 (.reg false [4] [
 ⟨some 47, none, (.mov (.t 5))⟩, ⟨some 4, none, (.mov (.t 47))⟩])
 .ret))))
 .skip))))))
 (.seq
 (.reg false [2, 3, 5] [
 ⟨some 48, none, (.fptr 0 (.t 2))⟩, ⟨some 49, none, (.load false 1 (.t 48))⟩, ⟨some 50, none, (.fptr 0 (.t 3))⟩, ⟨some 51, none, (.load false 1 (.t 50))⟩, ⟨some 52, none, (.call (.c (.fn (.func 97) [] [])) [(.t 49), (.t 51)])⟩, ⟨some 5, none, (.mov (.t 52))⟩])
 (.seq
 (.seq
 (.reg false [2, 3, 5, 54] [
 ⟨some 53, none, (.mov (.t 5))⟩, ⟨some 54, none, (.bin .eql (.t 53) (.c (.int .i64 0)))⟩])
 (.cond (.t 54)
 (.reg false [2, 3, 5] [
 ⟨some 55, none, (.fptr 1 (.t 2))⟩, ⟨some 56, none, (.load false 1 (.t 55))⟩, ⟨some 57, none, (.fptr 1 (.t 3))⟩, ⟨some 58, none, (.load false 1 (.t 57))⟩, ⟨some 59, none, (.call (.c (.fn (.func 97) [] [])) [(.t 56), (.t 58)])⟩, ⟨some 5, none, (.mov (.t 59))⟩])
 .skip))
 (.seq
 (.seq
 (.reg false [2, 3, 5, 61] [
 ⟨some 60, none, (.mov (.t 5))⟩, ⟨some 61, none, (.bin .eql (.t 60) (.c (.int .i64 0)))⟩])
 (.cond (.t 61)
 (.reg false [5] [
 ⟨some 62, none, (.fptr 2 (.t 2))⟩, ⟨some 63, none, (.load false 1 (.t 62))⟩, ⟨some 64, none, (.fptr 2 (.t 3))⟩, ⟨some 65, none, (.load false 1 (.t 64))⟩, ⟨some 66, none, (.call (.c (.fn (.func 113) [] [])) [(.t 63), (.t 65)])⟩, ⟨some 5, none, (.mov (.t 66))⟩])
 .skip))
 (.seq
 (.reg false [4] [
 ⟨some 67, none, (.mov (.t 5))⟩, ⟨some 4, none, (.mov (.t 67))⟩])
 .ret))))))))
theorem op_constraintref03_Compare {vals : List AV} {bs : List Box} {Q : AV → List Box → Prop} (hn : vals.length ≤ 68) (h : (⟨params 0 vals, bs, bs.length⟩ : St).fo true fun s => rc_constraintref03_Compare.gp Try.prog true s (retP [.slot 4] Q)) : AM.Sem Try.prog 96 vals bs Q :=
  Sem.nrm (Sem.of (fn := Try.f96) (keeps := [(0, [2, 3]), (1, [2, 3, 5]), (2, [2, 3, 5, 12]), (3, [4]), (4, [2, 3, 15]), (5, [2, 3, 15, 16]), (6, [2, 3, 15, 16]), (8, [2, 3, 24]), (9, [2, 3, 5]), (10, [2, 3, 5, 34]), (11, [2, 3, 5]), (12, [2, 3, 5, 41]), (13, [5]), (14, [4]), (7, [4]), (15, [2, 3, 5]), (16, [2, 3, 5, 54]), (17, [2, 3, 5]), (18, [2, 3, 5, 61]), (19, [5]), (20, [4])]) (solo := []) Try.func96 rfl (by kernel_rfl) (by kernel_rfl) (by kernel_rfl) hn (run_gp h))

def rc_constraintref03_args : RC :=
 (.seq
 (.reg false [1] [
 ⟨some 1, none, (.box (.t 0))⟩, ⟨some 2, none, (.mov (.c (.sl .full [])))⟩])
 (.seq
 (.seq
 (.reg false [1, 5] [
 ⟨some 3, none, (.fptr 0 (.t 1))⟩, ⟨some 4, none, (.load false 1 (.t 3))⟩, ⟨some 5, none, (.bin .eql (.t 4) (.c (.int .i64 2)))⟩])
 (.cond (.t 5)
 (.seq
 (.reg false [2] [
 ⟨some 6, none, (.fptr 3 (.t 1))⟩, ⟨some 7, none, (.load false 1 (.t 6))⟩, ⟨some 2, none, (.mov (.t 7))⟩])
 .ret)
 .skip))
 (.seq
 (.reg false [2] [
 ⟨some 2, none, (.mov (.c (.sl .full [])))⟩])
 .ret)))
theorem op_constraintref03_args {vals : List AV} {bs : List Box} {Q : AV → List Box → Prop} (hn : vals.length ≤ 8) (h : (⟨params 0 vals, bs, bs.length⟩ : St).fo true fun s => rc_constraintref03_args.gp Try.prog true s (retP [.slot 2] Q)) : AM.Sem Try.prog 111 vals bs Q :=
  Sem.nrm (Sem.of (fn := Try.f111) (keeps := [(0, [1]), (1, [1, 5]), (2, [2]), (3, [2])]) (solo := []) Try.func111 rfl (by kernel_rfl) (by kernel_rfl) (by kernel_rfl) hn (run_gp h))

def rc_constraintref03_class : RC :=
 (.seq
 (.reg false [1] [
 ⟨some 1, none, (.box (.t 0))⟩, ⟨some 2, none, (.mov (.c (.int .i64 0)))⟩])
 (.seq
 (.seq
 (.reg false [4] [
 ⟨some 3, none, (.fptr 0 (.t 1))⟩, ⟨some 4, none, (.load false 1 (.t 3))⟩])
 (.block 0
 (.seq
 (.reg false [4, 5] [
 ⟨some 6, none, (.bin .eql (.t 4) (.c (.int .i64 1)))⟩, ⟨some 5, none, (.mov (.t 6))⟩])
 (.cond (.t 5)
 (.seq
 (.reg false [2] [
 ⟨some 2, none, (.mov (.c (.int .i64 0)))⟩])
 .ret)
 (.seq
 (.reg false [4, 7] [
 ⟨some 8, none, (.bin .eql (.t 4) (.c (.int .i64 0)))⟩, ⟨some 7, none, (.mov (.t 8))⟩])
 (.cond (.t 7)
 (.seq
 (.reg false [2] [
 ⟨some 2, none, (.mov (.c (.int .i64 1)))⟩])
 .ret)
 (.seq
 (.reg false [9] [
 ⟨some 10, none, (.bin .eql (.t 4) (.c (.int .i64 2)))⟩, ⟨some 9, none, (.mov (.t 10))⟩])
 (.cond (.t 9)
 (.seq
 (.reg false [2] [
 ⟨some 2, none, (.mov (.c (.int .i64 2)))⟩])
 .ret)
 .skip))))))))
 (.seq
 (.reg false [2] [
 ⟨some 2, none, (.mov (.c (.int .i64 3)))⟩])
 .ret)))
theorem op_constraintref03_class {vals : List AV} {bs : List Box} {Q : AV → List Box → Prop} (hn : vals.length ≤ 11) (h : (⟨params 0 vals, bs, bs.length⟩ : St).fo true fun s => rc_constraintref03_class.gp Try.prog true s (retP [.slot 2] Q)) : AM.Sem Try.prog 112 vals bs Q :=
  Sem.nrm (Sem.of (fn := Try.f112) (keeps := [(0, [1]), (1, [4]), (2, [4, 5]), (4, [4, 7]), (6, [9]), (7, [2]), (5, [2]), (3, [2]), (8, [2])]) (solo := []) Try.func112 rfl (by kernel_rfl) (by kernel_rfl) (by kernel_rfl) hn (run_gp h))

def rc_constraintref03_texts : RC :=
 (.seq
 (.reg false [0, 1] [
 ⟨some 4, none, (.mov (.c (.int .i64 0)))⟩])
 (.seq
 (.block 0
 (.seq
 (.reg false [0, 1, 5] [
 ⟨some 6, none, (.mov (.t 0))⟩, ⟨some 7, none, (.mov (.t 1))⟩, ⟨some 8, none, (.bin .lss (.t 6) (.t 7))⟩, ⟨some 5, none, (.mov (.t 8))⟩])
 (.cond (.t 5)
 (.seq
 (.reg false [4] [
 ⟨some 4, none, (.mov (.c (.int .i64 (-1))))⟩])
 .ret)
 (.seq
 (.reg false [9] [
 ⟨some 10, none, (.mov (.t 0))⟩, ⟨some 11, none, (.mov (.t 1))⟩, ⟨some 12, none, (.bin .gtr (.t 10) (.t 11))⟩, ⟨some 9, none, (.mov (.t 12))⟩])
 (.cond (.t 9)
 (.seq
 (.reg false [4] [
 ⟨some 4, none, (.mov (.c (.int .i64 1)))⟩])
 .ret)
 .skip)))))
 (.seq
 (.reg false [4] [
 ⟨some 4, none, (.mov (.c (.int .i64 0)))⟩])
 .ret)))
theorem op_constraintref03_texts {vals : List AV} {bs : List Box} {Q : AV → List Box → Prop} (hn : vals.length ≤ 13) (h : (⟨params 0 vals, bs, bs.length⟩ : St).fo true fun s => rc_constraintref03_texts.gp Try.prog true s (retP [.slot 4] Q)) : AM.Sem Try.prog 113 vals bs Q :=
  Sem.nrm (Sem.of (fn := Try.f113) (keeps := [(0, [0, 1]), (1, [0, 1, 5]), (3, [9]), (4, [4]), (2, [4]), (5, [4])]) (solo := []) Try.func113 rfl (by kernel_rfl) (by kernel_rfl) (by kernel_rfl) hn (run_gp h))

def rc_constraintref03_ints : RC :=
 (.seq
 (.reg false [0, 1] [
 ⟨some 4, none, (.mov (.c (.int .i64 0)))⟩])
 (.seq
 (.block 0
 (.seq
 (.reg false [0, 1, 5] [
 ⟨some 6, none, (.mov (.t 0))⟩, ⟨some 7, none, (.mov (.t 1))⟩, ⟨some 8, none, (.bin .lss (.t 6) (.t 7))⟩, ⟨some 5, none, (.mov (.t 8))⟩])
 (.cond (.t 5)
 (.seq
 (.reg false [4] [
 ⟨some 4, none, (.mov (.c (.int .i64 (-1))))⟩])
 .ret)
 (.seq
 (.reg false [9] [
 ⟨some 10, none, (.mov (.t 0))⟩, ⟨some 11, none, (.mov (.t 1))⟩, ⟨some 12, none, (.bin .gtr (.t 10) (.t 11))⟩, ⟨some 9, none, (.mov (.t 12))⟩])
 (.cond (.t 9)
 (.seq
 (.reg false [4] [
 ⟨some 4, none, (.mov (.c (.int .i64 1)))⟩])
 .ret)
 .skip)))))
 (.seq
 (.reg false [4] [
 ⟨some 4, none, (.mov (.c (.int .i64 0)))⟩])
 .ret)))
theorem op_constraintref03_ints {vals : List AV} {bs : List Box} {Q : AV → List Box → Prop} (hn : vals.length ≤ 13) (h : (⟨params 0 vals, bs, bs.length⟩ : St).fo true fun s => rc_constraintref03_ints.gp Try.prog true s (retP [.slot 4] Q)) : AM.Sem Try.prog 97 vals bs Q :=
  Sem.nrm (Sem.of (fn := Try.f97) (keeps := [(0, [0, 1]), (1, [0, 1, 5]), (3, [9]), (4, [4]), (2, [4]), (5, [4])]) (solo := []) Try.func97 rfl (by kernel_rfl) (by kernel_rfl) (by kernel_rfl) hn (run_gp h))

def rc_constraintref03_lists : RC :=
 (.seq
 (.reg false [0, 1] [
 ⟨some 4, none, (.mov (.c (.int .i64 0)))⟩])
 (.seq
 (.seq
 (.reg false [0, 1, 5] [
 ⟨some 5, none, (.mov (.c (.int .i64 0)))⟩])
 (.block 0
 (.loop
 (.seq
 (.seq
 (.reg false [0, 1, 5, 16] [
 ⟨some 7, none, (.mov (.t 5))⟩, ⟨some 8, none, (.mov (.t 0))⟩, ⟨some 9, none, (.len false (.t 8))⟩, ⟨some 10, none, (.bin .lss (.t 7) (.t 9))⟩, ⟨some 11, none, (.mov (.t 10))⟩, ⟨some 12, some (11, true), (.mov (.t 5))⟩, ⟨some 13, some (11, true), (.mov (.t 1))⟩, ⟨some 14, some (11, true), (.len false (.t 13))⟩, ⟨some 15, some (11, true), (.bin .lss (.t 12) (.t 14))⟩, ⟨some 16, none, (.pick (.t 11) (.t 15) (.c (.bool false)))⟩])
 (.cond (.t 16)
 .skip
 (.exit 0)))
 (.seq
 (.block 1
 (.seq
 (.reg true [0, 1, 5, 6] [
 ⟨some 19, none, (.mov (.t 0))⟩, ⟨some 20, none, (.mov (.t 5))⟩, ⟨some 21, none, (.idx 4 (.t 19) (.t 20))⟩, ⟨some 22, none, (.load true 4 (.t 21))⟩, ⟨some 23, none, (.mov (.t 1))⟩, ⟨some 24, none, (.mov (.t 5))⟩, ⟨some 25, none, (.idx 4 (.t 23) (.t 24))⟩, ⟨some 26, none, (.load true 4 (.t 25))⟩, ⟨some 27, none, (.call (.c (.fn (.func 96) [] [])) [(.t 22), (.t 26)])⟩, ⟨some 6, none, (.take 27)⟩])
 (.seq
 (.reg false [0, 1, 5, 6, 29] [
 ⟨some 28, none, (.mov (.t 6))⟩, ⟨some 29, none, (.bin .neq (.t 28) (.c (.int .i64 0)))⟩])
 (.cond (.t 29)
 (.seq
 (.reg false [4] [
 ⟨some 30, none, (.mov (.t 6))⟩, ⟨some 4, none, (.mov (.t 30))⟩])
 .ret)
 .skip))))
 (.reg false [0, 1, 5] [
 ⟨some 17, none, (.mov (.t 5))⟩, ⟨some 18, none, (.bin .add (.t 17) (.c (.int .i64 1)))⟩, ⟨some 5, none, (.mov (.t 18))⟩]))))))
 (.seq
 (.reg false [4] [
 ⟨some 31, none, (.mov (.t 0))⟩, ⟨some 32, none, (.len false (.t 31))⟩, ⟨some 33, none, (.mov (.t 1))⟩, ⟨some 34, none, (.len false (.t 33))⟩, ⟨some 35, none, (.call (.c (.fn (.func 97) [] [])) [(.t 32), (.t 34)])⟩, ⟨some 4, none, (.mov (.t 35))⟩])
 .ret)))
theorem op_constraintref03_lists {vals : List AV} {bs : List Box} {Q : AV → List Box → Prop} (hn : vals.length ≤ 36) (h : (⟨params 0 vals, bs, bs.length⟩ : St).fo true fun s => rc_constraintref03_lists.gp Try.prog true s (retP [.slot 4] Q)) : AM.Sem Try.prog 71 vals bs Q :=
  Sem.nrm (Sem.of (fn := Try.f71) (keeps := [(0, [0, 1]), (1, [0, 1, 5]), (2, [0, 1, 5, 16]), (4, [0, 1, 5, 6]), (5, [0, 1, 5, 6, 29]), (6, [4]), (3, [0, 1, 5]), (7, [4])]) (solo := []) Try.func71 rfl (by kernel_rfl) (by kernel_rfl) (by kernel_rfl) hn (run_gp h))

def rc_constraintref03_weigh : RC :=
 (.seq
 (.reg false [0, 1, 2] [
 ⟨some 6, none, (.mov (.c (.int .i64 0)))⟩])
 (.seq
 (.seq
 (.reg false [0, 1, 2, 15] [
 ⟨some 8, none, (.mov (.t 2))⟩, ⟨some 9, none, (.bin .eql (.t 8) (.c (.int .i64 0)))⟩, ⟨some 10, none, (.mov (.t 9))⟩, ⟨some 11, some (10, false), (.mov (.t 0))⟩, ⟨some 12, some (10, false), (.len false (.t 11))⟩, ⟨some 13, some (10, false), (.mov (.t 1))⟩, ⟨some 14, some (10, false), (.bin .gtr (.t 12) (.t 13))⟩, ⟨some 15, none, (.pick (.t 10) (.c (.bool true)) (.t 14))⟩])
 (.cond (.t 15)
 (.seq
 (.reg false [6] [
 ⟨some 6, none, (.mov (.c (.int .i64 (-1))))⟩])
 .ret)
 .skip))
 (.seq
 (.seq
 (.reg false [0, 1, 2, 7] [
 ⟨some 7, none, (.mov (.c (.int .i64 0)))⟩])
 (.block 0
 (.loop
 (.seq
 (.seq
 (.reg false [0, 1, 2, 7, 23] [
 ⟨some 16, none, (.mov (.t 7))⟩, ⟨some 17, none, (.mov (.t 0))⟩, ⟨some 18, none, (.len false (.t 17))⟩, ⟨some 19, none, (.bin .lss (.t 16) (.t 18))⟩, ⟨some 20, none, (.mov (.t 19))⟩, ⟨some 21, some (20, true), (.mov (.t 1))⟩, ⟨some 22, some (20, true), (.bin .geq (.t 21) (.c (.int .i64 0)))⟩, ⟨some 23, none, (.pick (.t 20) (.t 22) (.c (.bool false)))⟩])
 (.cond (.t 23)
 .skip
 (.exit 0)))
 (.seq
 (.block 1
 (.reg true [0, 1, 2, 7] [
 ⟨some 26, none, (.mov (.t 0))⟩, ⟨some 27, none, (.mov (.t 7))⟩, ⟨some 28, none, (.idx 4 (.t 26) (.t 27))⟩, ⟨some 29, none, (.fptr 3 (.t 28))⟩, ⟨some 30, none, (.load false 1 (.t 29))⟩, ⟨some 31, none, (.mov (.t 1))⟩, ⟨some 32, none, (.bin .sub (.t 31) (.c (.int .i64 1)))⟩, ⟨some 33, none, (.mov (.t 0))⟩, ⟨some 34, none, (.mov (.t 7))⟩, ⟨some 35, none, (.idx 4 (.t 33) (.t 34))⟩, ⟨some 36, none, (.fptr 2 (.t 35))⟩, ⟨some 37, none, (.load false 1 (.t 36))⟩, ⟨some 38, none, (.len true (.t 37))⟩, ⟨some 39, none, (.bin .quo (.t 38) (.c (.int .i64 8)))⟩, ⟨some 40, none, (.bin .sub (.t 32) (.t 39))⟩, ⟨some 41, none, (.mov (.t 2))⟩, ⟨some 42, none, (.bin .sub (.t 41) (.c (.int .i64 1)))⟩, ⟨some 43, none, (.call (.c (.fn (.func 104) [] [])) [(.t 30), (.t 40), (.t 42)])⟩, ⟨some 1, none, (.take 43)⟩]))
 (.reg false [0, 1, 2, 7] [
 ⟨some 24, none, (.mov (.t 7))⟩, ⟨some 25, none, (.bin .add (.t 24) (.c (.int .i64 1)))⟩, ⟨some 7, none, (.mov (.t 25))⟩]))))))
 (.seq
 (.reg false [6] [
 ⟨some 44, none, (.mov (.t 1))⟩, ⟨some 6, none, (.mov (.t 44))⟩])
 .ret))))
theorem op_constraintref03_weigh {vals : List AV} {bs : List Box} {Q : AV → List Box → Prop} (hn : vals.length ≤ 45) (h : (⟨params 0 vals, bs, bs.length⟩ : St).fo true fun s => rc_constraintref03_weigh.gp Try.prog true s (retP [.slot 6] Q)) : AM.Sem Try.prog 104 vals bs Q :=
  Sem.nrm (Sem.of (fn := Try.f104) (keeps := [(0, [0, 1, 2]), (1, [0, 1, 2, 15]), (2, [6]), (3, [0, 1, 2, 7]), (4, [0, 1, 2, 7, 23]), (6, [0, 1, 2, 7]), (5, [0, 1, 2, 7]), (7, [6])]) (solo := []) Try.func104 rfl (by kernel_rfl) (by kernel_rfl) (by kernel_rfl) hn (run_gp h))

def rc_constraintref03_AtomVars : RC :=
 (.seq
 (.reg false [1] [
 ⟨some 1, none, (.box (.t 0))⟩, ⟨some 2, none, (.mov (.c (.sl .full [])))⟩])
 (.seq
 (.reg false [2] [
 ⟨some 3, none, (.fptr 1 (.t 1))⟩, ⟨some 4, none, (.load false 1 (.t 3))⟩, ⟨some 5, none, (.call (.c (.fn (.func 60) [] [])) [(.t 4)])⟩, ⟨some 2, none, (.mov (.t 5))⟩])
 .ret))
theorem op_constraintref03_AtomVars {vals : List AV} {bs : List Box} {Q : AV → List Box → Prop} (hn : vals.length ≤ 6) (h : (⟨params 0 vals, bs, bs.length⟩ : St).fo true fun s => rc_constraintref03_AtomVars.gp Try.prog true s (retP [.slot 2] Q)) : AM.Sem Try.prog 76 vals bs Q :=
  Sem.nrm (Sem.of (fn := Try.f76) (keeps := [(0, [1]), (1, [2])]) (solo := []) Try.func76 rfl (by kernel_rfl) (by kernel_rfl) (by kernel_rfl) hn (run_gp h))

def rc_constraintref03_has : RC :=
 (.seq
 (.reg false [0, 1] [
 ⟨some 4, none, (.mov (.c (.bool false)))⟩])
 (.seq
 (.seq
 (.reg false [0, 1, 5] [
 ⟨some 5, none, (.mov (.c (.int .i64 0)))⟩])
 (.block 0
 (.loop
 (.seq
 (.seq
 (.reg false [0, 1, 5, 9] [
 ⟨some 6, none, (.mov (.t 5))⟩, ⟨some 7, none, (.mov (.t 0))⟩, ⟨some 8, none, (.len false (.t 7))⟩, ⟨some 9, none, (.bin .lss (.t 6) (.t 8))⟩])
 (.cond (.t 9)
 .skip
 (.exit 0)))
 (.seq
 (.block 1
 (.seq
 (.reg false [0, 1, 5, 17] [
 ⟨some 12, none, (.mov (.t 0))⟩, ⟨some 13, none, (.mov (.t 5))⟩, ⟨some 14, none, (.idx 1 (.t 12) (.t 13))⟩, ⟨some 15, none, (.load false 1 (.t 14))⟩, ⟨some 16, none, (.mov (.t 1))⟩, ⟨some 17, none, (.bin .eql (.t 15) (.t 16))⟩])
 (.cond (.t 17)
 (.seq
 (.reg false [4] [
 ⟨some 4, none, (.mov (.c (.bool true)))⟩])
 .ret)
 .skip)))
 (.reg false [0, 1, 5] [
 ⟨some 10, none, (.mov (.t 5))⟩, ⟨some 11, none, (.bin .add (.t 10) (.c (.int .i64 1)))⟩, ⟨some 5, none, (.mov (.t 11))⟩]))))))
 (.seq
 (.reg false [4] [
 ⟨some 4, none, (.mov (.c (.bool false)))⟩])
 .ret)))
theorem op_constraintref03_has {vals : List AV} {bs : List Box} {Q : AV → List Box → Prop} (hn : vals.length ≤ 18) (h : (⟨params 0 vals, bs, bs.length⟩ : St).fo true fun s => rc_constraintref03_has.gp Try.prog true s (retP [.slot 4] Q)) : AM.Sem Try.prog 110 vals bs Q :=
  Sem.nrm (Sem.of (fn := Try.f110) (keeps := [(0, [0, 1]), (1, [0, 1, 5]), (2, [0, 1, 5, 9]), (4, [0, 1, 5, 17]), (5, [4]), (3, [0, 1, 5]), (6, [4])]) (solo := []) Try.func110 rfl (by kernel_rfl) (by kernel_rfl) (by kernel_rfl) hn (run_gp h))

def rc_constraintref03_SameGoal : RC :=
 (.seq
 (.reg false [2, 3] [
 ⟨some 2, none, (.box (.t 0))⟩, ⟨some 3, none, (.box (.t 1))⟩, ⟨some 4, none, (.mov (.c (.bool false)))⟩])
 (.seq
 (.reg false [4] [
 ⟨some 5, none, (.fptr 0 (.t 2))⟩, ⟨some 6, none, (.load false 1 (.t 5))⟩, ⟨some 7, none, (.fptr 0 (.t 3))⟩, ⟨some 8, none, (.load false 1 (.t 7))⟩, ⟨some 9, none, (.bin .eql (.t 6) (.t 8))⟩, ⟨some 10, none, (.mov (.t 9))⟩, ⟨some 11, some (10, true), (.fptr 1 (.t 2))⟩, ⟨some 12, some (10, true), (.load false 1 (.t 11))⟩, ⟨some 13, some (10, true), (.fptr 1 (.t 3))⟩, ⟨some 14, some (10, true), (.load false 1 (.t 13))⟩, ⟨some 15, some (10, true), (.bin .eql (.t 12) (.t 14))⟩, ⟨some 16, none, (.pick (.t 10) (.t 15) (.c (.bool false)))⟩, ⟨some 17, none, (.mov (.t 16))⟩, ⟨some 18, some (17, true), (.fptr 2 (.t 2))⟩, ⟨some 19, some (17, true), (.load false 1 (.t 18))⟩, ⟨some 20, some (17, true), (.len false (.t 19))⟩, ⟨some 21, some (17, true), (.fptr 2 (.t 3))⟩, ⟨some 22, some (17, true), (.load false 1 (.t 21))⟩, ⟨some 23, some (17, true), (.len false (.t 22))⟩, ⟨some 24, some (17, true), (.bin .eql (.t 20) (.t 23))⟩, ⟨some 25, none, (.pick (.t 17) (.t 24) (.c (.bool false)))⟩, ⟨some 26, none, (.mov (.t 25))⟩, ⟨some 27, some (26, true), (.fptr 2 (.t 2))⟩, ⟨some 28, some (26, true), (.load false 1 (.t 27))⟩, ⟨some 29, some (26, true), (.fptr 2 (.t 3))⟩, ⟨some 30, some (26, true), (.load false 1 (.t 29))⟩, ⟨some 31, some (26, true), (.call (.c (.fn (.func 24) [] [])) [(.t 28), (.t 30)])⟩, ⟨some 32, none, (.pick (.t 26) (.t 31) (.c (.bool false)))⟩, ⟨some 4, none, (.mov (.t 32))⟩])
 .ret))
theorem op_constraintref03_SameGoal {vals : List AV} {bs : List Box} {Q : AV → List Box → Prop} (hn : vals.length ≤ 33) (h : (⟨params 0 vals, bs, bs.length⟩ : St).fo true fun s => rc_constraintref03_SameGoal.gp Try.prog true s (retP [.slot 4] Q)) : AM.Sem Try.prog 79 vals bs Q :=
  Sem.nrm (Sem.of (fn := Try.f79) (keeps := [(0, [2, 3]), (1, [4])]) (solo := []) Try.func79 rfl (by kernel_rfl) (by kernel_rfl) (by kernel_rfl) hn (run_gp h))

def rc_constraintref03_SameTerms : RC :=
 (.seq
 (.reg false [0, 1] [
 ⟨some 4, none, (.mov (.c (.bool false)))⟩])
 (.seq
 (.reg false [4] [
 ⟨some 5, none, (.mov (.t 0))⟩, ⟨some 6, none, (.mov (.t 1))⟩, ⟨some 7, none, (.call (.c (.fn (.func 71) [] [])) [(.t 5), (.t 6)])⟩, ⟨some 8, none, (.bin .eql (.t 7) (.c (.int .i64 0)))⟩, ⟨some 4, none, (.mov (.t 8))⟩])
 .ret))
theorem op_constraintref03_SameTerms {vals : List AV} {bs : List Box} {Q : AV → List Box → Prop} (hn : vals.length ≤ 9) (h : (⟨params 0 vals, bs, bs.length⟩ : St).fo true fun s => rc_constraintref03_SameTerms.gp Try.prog true s (retP [.slot 4] Q)) : AM.Sem Try.prog 24 vals bs Q :=
  Sem.nrm (Sem.of (fn := Try.f24) (keeps := [(0, [0, 1]), (1, [4])]) (solo := []) Try.func24 rfl (by kernel_rfl) (by kernel_rfl) (by kernel_rfl) hn (run_gp h))

def rc_constraintlaw04_Small : RC :=
 (.seq
 (.reg false [1] [
 ⟨some 1, none, (.box (.t 0))⟩, ⟨some 2, none, (.mov (.c (.bool false)))⟩])
 (.seq
 (.reg false [2] [
 ⟨some 3, none, (.load true 4 (.t 1))⟩, ⟨some 4, none, (.call (.c (.fn (.func 100) [] [])) [(.t 3), (.c (.int .i64 1000)), (.c (.int .i64 100))])⟩, ⟨some 5, none, (.bin .geq (.t 4) (.c (.int .i64 0)))⟩, ⟨some 2, none, (.mov (.t 5))⟩])
 .ret))
theorem op_constraintlaw04_Small {vals : List AV} {bs : List Box} {Q : AV → List Box → Prop} (hn : vals.length ≤ 6) (h : (⟨params 0 vals, bs, bs.length⟩ : St).fo true fun s => rc_constraintlaw04_Small.gp Try.prog true s (retP [.slot 2] Q)) : AM.Sem Try.prog 78 vals bs Q :=
  Sem.nrm (Sem.of (fn := Try.f78) (keeps := [(0, [1]), (1, [2])]) (solo := []) Try.func78 rfl (by kernel_rfl) (by kernel_rfl) (by kernel_rfl) hn (run_gp h))

def rc_constraintlaw04_left : RC :=
 (.seq
 (.reg false [1, 2, 3] [
 ⟨some 3, none, (.box (.t 0))⟩, ⟨some 6, none, (.mov (.c (.int .i64 0)))⟩])
 (.seq
 (.reg false [1, 2, 3] [
 ⟨some 8, none, (.mov (.t 1))⟩, ⟨some 9, none, (.bin .sub (.t 8) (.c (.int .i64 1)))⟩, ⟨some 1, none, (.mov (.t 9))⟩])
 (.seq
 (.seq
 (.reg false [1, 2, 3, 15] [
 ⟨some 10, none, (.mov (.t 2))⟩, ⟨some 11, none, (.bin .lss (.t 10) (.c (.int .i64 1)))⟩, ⟨some 12, none, (.mov (.t 11))⟩, ⟨some 13, some (12, false), (.mov (.t 1))⟩, ⟨some 14, some (12, false), (.bin .lss (.t 13) (.c (.int .i64 0)))⟩, ⟨some 15, none, (.pick (.t 12) (.c (.bool true)) (.t 14))⟩])
 (.cond (.t 15)
 (.seq
 (.reg false [6] [
 ⟨some 6, none, (.mov (.c (.int .i64 (-1))))⟩])
 .ret)
 .skip))
 (.seq
 (.seq
 (.reg false [1, 2, 3, 18, 19] [
 ⟨some 16, none, (.fptr 3 (.t 3))⟩, ⟨some 17, none, (.load false 1 (.t 16))⟩, ⟨some 18, none, (.len false (.t 17))⟩, ⟨some 19, none, (.mov (.c (.int .i64 0)))⟩])
 (.block 0
 (.loop
 (.seq
 (.reg false [1, 2, 3, 18, 19, 20] [
 ⟨some 20, none, (.bin .lss (.t 19) (.t 18))⟩])
 (.seq
 (.cond (.t 20)
 .skip
 (.exit 0))
 (.seq
 (.block 1
 (.seq
 (.reg false [1, 2, 3, 7, 18, 19] [
 ⟨some 21, none, (.mov (.t 19))⟩, ⟨some 7, none, (.mov (.t 21))⟩])
 (.seq
 (.reg false [1, 2, 3, 18, 19] [
 ⟨some 22, none, (.fptr 3 (.t 3))⟩, ⟨some 23, none, (.load false 1 (.t 22))⟩, ⟨some 24, none, (.mov (.t 7))⟩, ⟨some 25, none, (.idx 4 (.t 23) (.t 24))⟩, ⟨some 26, none, (.load true 4 (.t 25))⟩, ⟨some 27, none, (.mov (.t 1))⟩, ⟨some 28, none, (.mov (.t 2))⟩, ⟨some 29, none, (.bin .sub (.t 28) (.c (.int .i64 1)))⟩, ⟨some 30, none, (.call (.c (.fn (.func 100) [] [])) [(.t 26), (.t 27), (.t 29)])⟩, ⟨some 1, none, (.mov (.t 30))⟩])
 (.seq
 (.reg false [1, 2, 3, 18, 19, 32] [
 ⟨some 31, none, (.mov (.t 1))⟩, ⟨some 32, none, (.bin .lss (.t 31) (.c (.int .i64 0)))⟩])
 (.cond (.t 32)
 (.seq
 (.reg false [6] [
 ⟨some 6, none, (.mov (.c (.int .i64 (-1))))⟩])
 .ret)
 .skip)))))
 (.reg false [1, 2, 3, 18, 19] [
 ⟨some 33, none, (.bin .add (.t 19) (.c (.int .i64 1)))⟩, ⟨some 19, none, (.mov (.t 33))⟩])))))))
 (.seq
 (.reg false [6] [
 ⟨some 34, none, (.mov (.t 1))⟩, ⟨some 6, none, (.mov (.t 34))⟩])
 .ret)))))
theorem op_constraintlaw04_left {vals : List AV} {bs : List Box} {Q : AV → List Box → Prop} (hn : vals.length ≤ 35) (h : (⟨params 0 vals, bs, bs.length⟩ : St).fo true fun s => rc_constraintlaw04_left.gp Try.prog true s (retP [.slot 6] Q)) : AM.Sem Try.prog 100 vals bs Q :=
  Sem.nrm (Sem.of (fn := Try.f100) (keeps := [(0, [1, 2, 3]), (1, [1, 2, 3]), (2, [1, 2, 3, 15]), (3, [6]), (4, [1, 2, 3, 18, 19]), (5, [1, 2, 3, 18, 19, 20]), (6, [1, 2, 3, 7, 18, 19]), (7, [1, 2, 3, 18, 19]), (8, [1, 2, 3, 18, 19, 32]), (9, [6]), (10, [1, 2, 3, 18, 19]), (11, [6])]) (solo := []) Try.func100 rfl (by kernel_rfl) (by kernel_rfl) (by kernel_rfl) hn (run_gp h))

def rc_constraintlaw10_Ints : RC :=
 (.seq
 (.reg false [0, 1] [
 ⟨some 4, none, (.mov (.c (.bool false)))⟩])
 (.seq
 (.seq
 (.reg false [0, 1, 10] [
 ⟨some 6, none, (.mov (.t 0))⟩, ⟨some 7, none, (.len false (.t 6))⟩, ⟨some 8, none, (.mov (.t 1))⟩, ⟨some 9, none, (.len false (.t 8))⟩, ⟨some 10, none, (.bin .neq (.t 7) (.t 9))⟩])
 (.cond (.t 10)
 (.seq
 (.reg false [4] [
 ⟨some 4, none, (.mov (.c (.bool false)))⟩])
 .ret)
 .skip))
 (.seq
 (.seq
 (.reg false [0, 1, 12, 13] [
 ⟨some 11, none, (.mov (.t 0))⟩, ⟨some 12, none, (.len false (.t 11))⟩, ⟨some 13, none, (.mov (.c (.int .i64 0)))⟩])
 (.block 0
 (.loop
 (.seq
 (.reg false [0, 1, 12, 13, 14] [
 ⟨some 14, none, (.bin .lss (.t 13) (.t 12))⟩])
 (.seq
 (.cond (.t 14)
 .skip
 (.exit 0))
 (.seq
 (.block 1
 (.seq
 (.reg false [0, 1, 5, 12, 13] [
 ⟨some 15, none, (.mov (.t 13))⟩, ⟨some 5, none, (.mov (.t 15))⟩])
 (.seq
 (.reg true [0, 1, 12, 13, 24] [
 ⟨some 16, none, (.mov (.t 0))⟩, ⟨some 17, none, (.mov (.t 5))⟩, ⟨some 18, none, (.idx 1 (.t 16) (.t 17))⟩, ⟨some 19, none, (.load false 1 (.t 18))⟩, ⟨some 20, none, (.mov (.t 1))⟩, ⟨some 21, none, (.mov (.t 5))⟩, ⟨some 22, none, (.idx 1 (.t 20) (.t 21))⟩, ⟨some 23, none, (.load false 1 (.t 22))⟩, ⟨some 24, none, (.bin .neq (.t 19) (.t 23))⟩])
 (.cond (.t 24)
 (.seq
 (.reg false [4] [
 ⟨some 4, none, (.mov (.c (.bool false)))⟩])
 .ret)
 .skip))))
 (.reg false [0, 1, 12, 13] [
 ⟨some 25, none, (.bin .add (.t 13) (.c (.int .i64 1)))⟩, ⟨some 13, none, (.mov (.t 25))⟩])))))))
 (.seq
 (.reg false [4] [
 ⟨some 4, none, (.mov (.c (.bool true)))⟩])
 .ret))))
theorem op_constraintlaw10_Ints {vals : List AV} {bs : List Box} {Q : AV → List Box → Prop} (hn : vals.length ≤ 26) (h : (⟨params 0 vals, bs, bs.length⟩ : St).fo true fun s => rc_constraintlaw10_Ints.gp Try.prog true s (retP [.slot 4] Q)) : AM.Sem Try.prog 29 vals bs Q :=
  Sem.nrm (Sem.of (fn := Try.f29) (keeps := [(0, [0, 1]), (1, [0, 1, 10]), (2, [4]), (3, [0, 1, 12, 13]), (4, [0, 1, 12, 13, 14]), (5, [0, 1, 5, 12, 13]), (6, [0, 1, 12, 13, 24]), (7, [4]), (8, [0, 1, 12, 13]), (9, [4])]) (solo := []) Try.func29 rfl (by kernel_rfl) (by kernel_rfl) (by kernel_rfl) hn (run_gp h))

theorem opS_slices_ContainsFunc_int_int {vals : List AV} {bs : List Box} {Q : AV → List Box → Prop} (hn : vals.length ≤ 9) (h : (⟨params 0 vals, bs, bs.length⟩ : St).fo false fun s => rc_slices_ContainsFunc_int_int.gp Try.prog false s (retP [.slot 4] Q)) : AM.Sem Try.prog 56 vals bs Q :=
  Sem.nrm (Sem.of (fn := Try.f56) (keeps := [(0, [0, 1]), (1, [4])]) (solo := []) Try.func56 rfl (by kernel_rfl) (by kernel_rfl) (by kernel_rfl) hn (run_gp h))

theorem opS_slices_IndexFunc_int_int {vals : List AV} {bs : List Box} {Q : AV → List Box → Prop} (hn : vals.length ≤ 19) (h : (⟨params 0 vals, bs, bs.length⟩ : St).fo false fun s => rc_slices_IndexFunc_int_int.gp Try.prog false s (retP [.slot 4] Q)) : AM.Sem Try.prog 92 vals bs Q :=
  Sem.nrm (Sem.of (fn := Try.f92) (keeps := [(0, [0, 1]), (1, [0, 1, 7, 8]), (2, [0, 1, 7, 8, 9]), (3, [0, 1, 5, 7, 8]), (4, [0, 1, 5, 7, 8, 16]), (5, [4]), (6, [0, 1, 7, 8]), (7, [4])]) (solo := []) Try.func92 rfl (by kernel_rfl) (by kernel_rfl) (by kernel_rfl) hn (run_gp h))

theorem opS_slices_Backward_int_int_1 {vals : List AV} {bs : List Box} {Q : AV → List Box → Prop} (hn : vals.length ≤ 19) (h : (⟨params 0 vals, bs, bs.length⟩ : St).fo false fun s => rc_slices_Backward_int_int_1.gp Try.prog false s (retP [] Q)) : AM.Sem Try.prog 101 vals bs Q :=
  Sem.nrm (Sem.of (fn := Try.f101) (keeps := [(0, [0, 1, 3]), (1, [0, 1, 3, 8]), (3, [0, 1, 3, 18]), (2, [0, 1, 3])]) (solo := []) Try.func101 rfl (by kernel_rfl) (by kernel_rfl) (by kernel_rfl) hn (run_gp h))

theorem opS_term_each_1 {vals : List AV} {bs : List Box} {Q : AV → List Box → Prop} (hn : vals.length ≤ 17) (h : (⟨params 0 vals, bs, bs.length⟩ : St).fo false fun s => rc_term_each_1.gp Try.prog false s (retP [] Q)) : AM.Sem Try.prog 108 vals bs Q :=
  Sem.nrm (Sem.of (fn := Try.f108) (keeps := [(0, [0, 1, 5, 6]), (1, [0, 1, 5, 6, 7]), (2, [0, 1, 3, 5, 6]), (3, [0, 1, 5, 6, 15]), (4, [0, 1, 5, 6])]) (solo := []) Try.func108 rfl (by kernel_rfl) (by kernel_rfl) (by kernel_rfl) hn (run_gp h))

theorem opS_term_walk {vals : List AV} {bs : List Box} {Q : AV → List Box → Prop} (hn : vals.length ≤ 26) (h : (⟨params 0 vals, bs, bs.length⟩ : St).fo false fun s => rc_term_walk.gp Try.prog false s (retP [.slot 4] Q)) : AM.Sem Try.prog 109 vals bs Q :=
  Sem.nrm (Sem.of (fn := Try.f109) (keeps := [(0, [1, 2]), (1, [1, 2, 9]), (2, [4]), (3, [1, 15, 16, 17]), (4, [1, 15, 16, 17, 18]), (5, [1, 6, 15, 16, 17]), (6, [1, 15, 16, 17, 24]), (7, [4]), (8, [1, 15, 16, 17]), (9, [4])]) (solo := []) Try.func109 rfl (by kernel_rfl) (by kernel_rfl) (by kernel_rfl) hn (run_gp h))

theorem opS_constraintref03_vars {vals : List AV} {bs : List Box} {Q : AV → List Box → Prop} (hn : vals.length ≤ 37) (h : (⟨params 0 vals, bs, bs.length⟩ : St).fo false fun s => rc_constraintref03_vars.gp Try.prog false s (retP [.slot 4] Q)) : AM.Sem Try.prog 93 vals bs Q :=
  Sem.nrm (Sem.of (fn := Try.f93) (keeps := [(0, [0, 3]), (1, [0, 3, 16]), (2, [0, 3]), (3, [0, 5]), (4, [0, 5, 6]), (5, [0, 5, 6, 27]), (7, [0, 5, 6]), (6, [0, 5, 6]), (8, [4]), (1000000, [21])]) (solo := []) Try.func93 rfl (by kernel_rfl) (by kernel_rfl) (by kernel_rfl) hn (run_gp h))

theorem opS_constraintref03_VarsOf {vals : List AV} {bs : List Box} {Q : AV → List Box → Prop} (hn : vals.length ≤ 18) (h : (⟨params 0 vals, bs, bs.length⟩ : St).fo false fun s => rc_constraintref03_VarsOf.gp Try.prog false s (retP [.slot 2] Q)) : AM.Sem Try.prog 60 vals bs Q :=
  Sem.nrm (Sem.of (fn := Try.f60) (keeps := [(0, [0]), (1, [0, 3]), (2, [0, 3, 4]), (3, [0, 3, 4, 8]), (5, [0, 3, 4]), (4, [0, 3, 4]), (6, [2])]) (solo := []) Try.func60 rfl (by kernel_rfl) (by kernel_rfl) (by kernel_rfl) hn (run_gp h))

theorem opS_constraintref03_Vars {vals : List AV} {bs : List Box} {Q : AV → List Box → Prop} (hn : vals.length ≤ 5) (h : (⟨params 0 vals, bs, bs.length⟩ : St).fo false fun s => rc_constraintref03_Vars.gp Try.prog false s (retP [.slot 2] Q)) : AM.Sem Try.prog 62 vals bs Q :=
  Sem.nrm (Sem.of (fn := Try.f62) (keeps := [(0, [1]), (1, [2])]) (solo := []) Try.func62 rfl (by kernel_rfl) (by kernel_rfl) (by kernel_rfl) hn (run_gp h))

end Go.CK
