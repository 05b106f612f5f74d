/-
  Texts of this claim joined (wip/gen/bundle.py), those declarations only that are needed: RcPla. By an AI agent.
-/
import Derived.Test.YtamhnlajkncccaaGreatProg
import Derived.Test.YtamhnlajkncccaaGreatBao
import Derived.Test.YtamhnlajkncccaaGreatBaq
set_option linter.unusedSimpArgs false
set_option linter.unusedVariables false
namespace Go.CK
open Go.AM Go.Proofs
abbrev oQ (d : Nat) (x : RX) : ROp := ⟨some d, none, x⟩
abbrev oG (d g : Nat) (b : Bool) (x : RX) : ROp := ⟨some d, some (g, b), x⟩
abbrev oN (x : RX) : ROp := ⟨none, none, x⟩
abbrev SP (P : Program) (b : Bool) (vals : List AV) (bs : List Box) (c : RC) (rs : List RRes) (Q : AV → List Box → Prop) : Prop := (⟨params 0 vals, bs, bs.length⟩ : St).fo b fun s => c.gp P b s (retP rs Q)
variable {vals : List AV} {bs : List Box} {Q : AV → List Box → Prop}

def rc_slices_Contains_int_int : RC :=
 (.seq
 (.reg false [0, 1] [
 oQ 4 (.mov (.c (.bool false)))])
 (.seq
 (.reg false [4] [
 oQ 5 (.mov (.t 0)), oQ 6 (.mov (.t 1)), oQ 7 (.call (.c (.fn (.func 47) [] [])) [(.t 5), (.t 6)]), oQ 8 (.bin .geq (.t 7) (.c (.int .i64 0))), oQ 4 (.mov (.t 8))])
 .ret))
theorem op_slices_Contains_int_int (hn : vals.length ≤ 9) (h : SP Tryz.prog true vals bs rc_slices_Contains_int_int [.slot 4] Q) : AM.Sem Tryz.prog 23 vals bs Q :=
  Sem.nrm (Sem.of (fn := Tryz.f23) (keeps := [(0, [0, 1]), (1, [4])]) (solo := []) Tryz.func23 rfl (by kernel_rfl) (by kernel_rfl) (by kernel_rfl) hn (run_gp h))

def rc_slices_Index_int_int : RC :=
 (.seq
 (.reg false [0, 1] [
 oQ 4 (.mov (.c (.int .i64 0)))])
 (.seq
 (.seq
 (.reg false [0, 1, 7, 8] [
 oQ 6 (.mov (.t 0)), oQ 7 (.len false (.t 6)), oQ 8 (.mov (.c (.int .i64 0)))])
 (.block 0
 (.loop
 (.seq
 (.reg false [0, 1, 7, 8, 9] [
 oQ 9 (.bin .lss (.t 8) (.t 7))])
 (.seq
 (.cond (.t 9)
 .skip
 (.exit 0))
 (.seq
 (.block 1
 (.seq
 (.reg false [0, 1, 5, 7, 8] [
 oQ 10 (.mov (.t 8)), oQ 5 (.mov (.t 10))])
 (.seq
 (.reg false [0, 1, 5, 7, 8, 16] [
 oQ 11 (.mov (.t 1)), oQ 12 (.mov (.t 0)), oQ 13 (.mov (.t 5)), oQ 14 (.idx 1 (.t 12) (.t 13)), oQ 15 (.load false 1 (.t 14)), oQ 16 (.bin .eql (.t 11) (.t 15))])
 (.cond (.t 16)
 (.seq
 (.reg false [4] [
 oQ 17 (.mov (.t 5)), oQ 4 (.mov (.t 17))])
 .ret)
 .skip))))
 (.reg false [0, 1, 7, 8] [
 oQ 18 (.bin .add (.t 8) (.c (.int .i64 1))), oQ 8 (.mov (.t 18))])))))))
 (.seq
 (.reg false [4] [
 oQ 4 (.mov (.c (.int .i64 (-1))))])
 .ret)))
theorem op_slices_Index_int_int (hn : vals.length ≤ 19) (h : SP Tryz.prog true vals bs rc_slices_Index_int_int [.slot 4] Q) : AM.Sem Tryz.prog 47 vals bs Q :=
  Sem.nrm (Sem.of (fn := Tryz.f47) (keeps := [(0, [0, 1]), (1, [0, 1, 7, 8]), (2, [0, 1, 7, 8, 9]), (3, [0, 1, 5, 7, 8]), (4, [0, 1, 5, 7, 8, 16]), (5, [4]), (6, [0, 1, 7, 8]), (7, [4])]) (solo := []) Tryz.func47 rfl (by kernel_rfl) (by kernel_rfl) (by kernel_rfl) hn (run_gp h))

def rc_slices_Equal_int_int : RC :=
 (.seq
 (.reg false [0, 1] [
 oQ 4 (.mov (.c (.bool false)))])
 (.seq
 (.seq
 (.reg false [0, 1, 10] [
 oQ 6 (.mov (.t 0)), oQ 7 (.len false (.t 6)), oQ 8 (.mov (.t 1)), oQ 9 (.len false (.t 8)), oQ 10 (.bin .neq (.t 7) (.t 9))])
 (.cond (.t 10)
 (.seq
 (.reg false [4] [
 oQ 4 (.mov (.c (.bool false)))])
 .ret)
 .skip))
 (.seq
 (.seq
 (.reg false [0, 1, 12, 13] [
 oQ 11 (.mov (.t 0)), oQ 12 (.len false (.t 11)), oQ 13 (.mov (.c (.int .i64 0)))])
 (.block 0
 (.loop
 (.seq
 (.reg false [0, 1, 12, 13, 14] [
 oQ 14 (.bin .lss (.t 13) (.t 12))])
 (.seq
 (.cond (.t 14)
 .skip
 (.exit 0))
 (.seq
 (.block 1
 (.seq
 (.reg false [0, 1, 5, 12, 13] [
 oQ 15 (.mov (.t 13)), oQ 5 (.mov (.t 15))])
 (.seq
 (.reg true [0, 1, 12, 13, 24] [
 oQ 16 (.mov (.t 0)), oQ 17 (.mov (.t 5)), oQ 18 (.idx 1 (.t 16) (.t 17)), oQ 19 (.load false 1 (.t 18)), oQ 20 (.mov (.t 1)), oQ 21 (.mov (.t 5)), oQ 22 (.idx 1 (.t 20) (.t 21)), oQ 23 (.load false 1 (.t 22)), oQ 24 (.bin .neq (.t 19) (.t 23))])
 (.cond (.t 24)
 (.seq
 (.reg false [4] [
 oQ 4 (.mov (.c (.bool false)))])
 .ret)
 .skip))))
 (.reg false [0, 1, 12, 13] [
 oQ 25 (.bin .add (.t 13) (.c (.int .i64 1))), oQ 13 (.mov (.t 25))])))))))
 (.seq
 (.reg false [4] [
 oQ 4 (.mov (.c (.bool true)))])
 .ret))))
theorem op_slices_Equal_int_int (hn : vals.length ≤ 26) (h : SP Tryz.prog true vals bs rc_slices_Equal_int_int [.slot 4] Q) : AM.Sem Tryz.prog 36 vals bs Q :=
  Sem.nrm (Sem.of (fn := Tryz.f36) (keeps := [(0, [0, 1]), (1, [0, 1, 10]), (2, [4]), (3, [0, 1, 12, 13]), (4, [0, 1, 12, 13, 14]), (5, [0, 1, 5, 12, 13]), (6, [0, 1, 12, 13, 24]), (7, [4]), (8, [0, 1, 12, 13]), (9, [4])]) (solo := []) Tryz.func36 rfl (by kernel_rfl) (by kernel_rfl) (by kernel_rfl) hn (run_gp h))

def rc_slices_ContainsFunc_int_int : RC :=
 (.seq
 (.reg false [0, 1] [
 oQ 4 (.mov (.c (.bool false)))])
 (.seq
 (.reg false [4] [
 oQ 5 (.mov (.t 0)), oQ 6 (.mov (.t 1)), oQ 7 (.call (.c (.fn (.func 83) [] [])) [(.t 5), (.t 6)]), oQ 8 (.bin .geq (.t 7) (.c (.int .i64 0))), oQ 4 (.mov (.t 8))])
 .ret))
def rc_slices_IndexFunc_int_int : RC :=
 (.seq
 (.reg false [0, 1] [
 oQ 4 (.mov (.c (.int .i64 0)))])
 (.seq
 (.seq
 (.reg false [0, 1, 7, 8] [
 oQ 6 (.mov (.t 0)), oQ 7 (.len false (.t 6)), oQ 8 (.mov (.c (.int .i64 0)))])
 (.block 0
 (.loop
 (.seq
 (.reg false [0, 1, 7, 8, 9] [
 oQ 9 (.bin .lss (.t 8) (.t 7))])
 (.seq
 (.cond (.t 9)
 .skip
 (.exit 0))
 (.seq
 (.block 1
 (.seq
 (.reg false [0, 1, 5, 7, 8] [
 oQ 10 (.mov (.t 8)), oQ 5 (.mov (.t 10))])
 (.seq
 (.reg false [0, 1, 5, 7, 8, 16] [
 oQ 11 (.mov (.t 1)), oQ 12 (.mov (.t 0)), oQ 13 (.mov (.t 5)), oQ 14 (.idx 1 (.t 12) (.t 13)), oQ 15 (.load false 1 (.t 14)), oQ 16 (.callv (.t 11) [(.t 15)])])
 (.cond (.t 16)
 (.seq
 (.reg false [4] [
 oQ 17 (.mov (.t 5)), oQ 4 (.mov (.t 17))])
 .ret)
 .skip))))
 (.reg false [0, 1, 7, 8] [
 oQ 18 (.bin .add (.t 8) (.c (.int .i64 1))), oQ 8 (.mov (.t 18))])))))))
 (.seq
 (.reg false [4] [
 oQ 4 (.mov (.c (.int .i64 (-1))))])
 .ret)))
def rc_term_args : RC :=
 (.seq
 (.reg false [1] [
 oQ 1 (.box (.t 0)), oQ 2 (.mov (.c (.sl .full [])))])
 (.seq
 (.seq
 (.reg false [1, 5] [
 oQ 3 (.fptr 0 (.t 1)), oQ 4 (.load false 1 (.t 3)), oQ 5 (.bin .eql (.t 4) (.c (.int .i64 2)))])
 (.cond (.t 5)
 (.seq
 (.reg false [2] [
 oQ 6 (.fptr 3 (.t 1)), oQ 7 (.load false 1 (.t 6)), oQ 2 (.mov (.t 7))])
 .ret)
 .skip))
 (.seq
 (.reg false [2] [
 oQ 2 (.mov (.c (.sl .full [])))])
 .ret)))
theorem op_term_args (hn : vals.length ≤ 8) (h : SP Tryz.prog true vals bs rc_term_args [.slot 2] Q) : AM.Sem Tryz.prog 108 vals bs Q :=
  Sem.nrm (Sem.of (fn := Tryz.f108) (keeps := [(0, [1]), (1, [1, 5]), (2, [2]), (3, [2])]) (solo := []) Tryz.func108 rfl (by kernel_rfl) (by kernel_rfl) (by kernel_rfl) hn (run_gp h))

def rc_term_AtomVars : RC :=
 (.seq
 (.reg false [1] [
 oQ 1 (.box (.t 0)), oQ 2 (.mov (.c (.sl .full [])))])
 (.seq
 (.reg false [2] [
 oQ 3 (.fptr 1 (.t 1)), oQ 4 (.load false 1 (.t 3)), oQ 5 (.call (.c (.fn (.func 82) [] [])) [(.t 4)]), oQ 6 (.call (.c (.fn (.func 81) [] [])) [(.t 5)]), oQ 2 (.mov (.t 6))])
 .ret))
theorem op_term_AtomVars (hn : vals.length ≤ 7) (h : SP Tryz.prog true vals bs rc_term_AtomVars [.slot 2] Q) : AM.Sem Tryz.prog 66 vals bs Q :=
  Sem.nrm (Sem.of (fn := Tryz.f66) (keeps := [(0, [1]), (1, [2])]) (solo := []) Tryz.func66 rfl (by kernel_rfl) (by kernel_rfl) (by kernel_rfl) hn (run_gp h))

def rc_term_once : RC :=
 (.seq
 (.reg false [0, 2] [
 oQ 2 (.mov (.c (.sl .full [])))])
 (.seq
 (.reg false [0, 2, 3] [
 oQ 3 (.box (.c (.sl .full [])))])
 (.seq
 (.reg false [0, 2, 3, 4] [
 oQ 6 (.eff .mkM []), oQ 4 (.box (.c .nmp)), oN (.store 1 (.t 4) (.t 6))])
 (.seq
 (.seq
 (.reg false [2, 3, 4, 7] [
 oQ 7 (.mov (.t 0))])
 (.block 0
 (.range (.t 7) [8]
 (.reg false [3, 4, 5] [
 oQ 5 (.mov (.t 8))])
 (.block 1
 (.seq
 (.reg false [3, 4, 5, 12] [
 oQ 9 (.load false 1 (.t 4)), oQ 10 (.mov (.t 5)), oQ 11 (.eff (.getM false (.bool false)) [(.t 9), (.t 10)]), oQ 12 (.un .not (.t 11))])
 (.cond (.t 12)
 (.seq
 (.reg false [3, 5] [
 oQ 13 (.load false 1 (.t 4)), oQ 14 (.mov (.t 5)), oN (.eff .setM [(.t 13), (.t 14), (.c (.bool true))])])
 (.reg false [] [
 oQ 15 (.load false 1 (.t 3)), oQ 16 (.mov (.t 5)), oQ 17 (.bslice 1 [(.t 16)]), oQ 18 (.append 1 (.t 15) (.t 17)), oN (.store 1 (.t 3) (.t 18))]))
 .skip))))))
 (.seq
 (.reg false [2] [
 oQ 19 (.load false 1 (.t 3)), oQ 2 (.mov (.t 19))])
 .ret)))))
theorem op_term_once (hn : vals.length ≤ 20) (h : SP Tryz.prog true vals bs rc_term_once [.slot 2] Q) : AM.Sem Tryz.prog 81 vals bs Q :=
  Sem.nrm (Sem.of (fn := Tryz.f81) (keeps := [(0, [0, 2]), (1, [0, 2, 3]), (2, [0, 2, 3, 4]), (3, [2, 3, 4, 7]), (4, [3, 4, 5]), (5, [3, 4, 5, 12]), (6, [3, 5]), (7, []), (8, [2])]) (solo := []) Tryz.func81 rfl (by kernel_rfl) (by kernel_rfl) (by kernel_rfl) hn (run_gp h))

def rc_term_each : RC :=
 (.seq
 (.reg false [1] [
 oQ 1 (.box (.t 0)), oQ 2 (.mov (.c .nfn))])
 (.seq
 (.reg false [2] [
 oQ 3 (.mkfn (.func 98) [] [(.t 1)]), oQ 2 (.mov (.t 3))])
 .ret))
theorem op_term_each (hn : vals.length ≤ 4) (h : SP Tryz.prog true vals bs rc_term_each [.slot 2] Q) : AM.Sem Tryz.prog 82 vals bs Q :=
  Sem.nrm (Sem.of (fn := Tryz.f82) (keeps := [(0, [1]), (1, [2])]) (solo := []) Tryz.func82 rfl (by kernel_rfl) (by kernel_rfl) (by kernel_rfl) hn (run_gp h))

def rc_term_Vars : RC :=
 (.seq
 (.reg false [1] [
 oQ 1 (.box (.t 0)), oQ 2 (.mov (.c (.sl .full [])))])
 (.seq
 (.reg false [2] [
 oQ 3 (.load true 4 (.t 1)), oQ 4 (.bslice 4 [(.t 3)]), oQ 5 (.call (.c (.fn (.func 82) [] [])) [(.t 4)]), oQ 6 (.call (.c (.fn (.func 81) [] [])) [(.t 5)]), oQ 2 (.mov (.t 6))])
 .ret))
theorem op_term_Vars (hn : vals.length ≤ 7) (h : SP Tryz.prog true vals bs rc_term_Vars [.slot 2] Q) : AM.Sem Tryz.prog 67 vals bs Q :=
  Sem.nrm (Sem.of (fn := Tryz.f67) (keeps := [(0, [1]), (1, [2])]) (solo := []) Tryz.func67 rfl (by kernel_rfl) (by kernel_rfl) (by kernel_rfl) hn (run_gp h))

def rc_term_GoalVars : RC :=
 (.seq
 (.reg false [1] [
 oQ 1 (.box (.t 0)), oQ 2 (.mov (.c (.sl .full [])))])
 (.seq
 (.reg false [2] [
 oQ 3 (.fptr 2 (.t 1)), oQ 4 (.load false 1 (.t 3)), oQ 5 (.call (.c (.fn (.func 82) [] [])) [(.t 4)]), oQ 6 (.call (.c (.fn (.func 81) [] [])) [(.t 5)]), oQ 2 (.mov (.t 6))])
 .ret))
theorem op_term_GoalVars (hn : vals.length ≤ 7) (h : SP Tryz.prog true vals bs rc_term_GoalVars [.slot 2] Q) : AM.Sem Tryz.prog 84 vals bs Q :=
  Sem.nrm (Sem.of (fn := Tryz.f84) (keeps := [(0, [1]), (1, [2])]) (solo := []) Tryz.func84 rfl (by kernel_rfl) (by kernel_rfl) (by kernel_rfl) hn (run_gp h))

def rc_term_each_1 : RC :=
 (.seq
 (.reg false [0, 1, 5, 6] [
 oQ 4 (.load false 1 (.t 1)), oQ 5 (.len false (.t 4)), oQ 6 (.mov (.c (.int .i64 0)))])
 (.block 0
 (.loop
 (.seq
 (.reg false [0, 1, 5, 6, 7] [
 oQ 7 (.bin .lss (.t 6) (.t 5))])
 (.seq
 (.cond (.t 7)
 .skip
 (.exit 0))
 (.seq
 (.block 1
 (.seq
 (.reg false [0, 1, 3, 5, 6] [
 oQ 8 (.mov (.t 6)), oQ 3 (.mov (.t 8))])
 (.seq
 (.reg false [0, 1, 5, 6, 15] [
 oQ 9 (.load false 1 (.t 1)), oQ 10 (.mov (.t 3)), oQ 11 (.idx 4 (.t 9) (.t 10)), oQ 12 (.load true 4 (.t 11)), oQ 13 (.mov (.t 0)), oQ 14 (.call (.c (.fn (.func 99) [] [])) [(.t 12), (.t 13)]), oQ 15 (.un .not (.t 14))])
 (.cond (.t 15)
 .ret
 .skip))))
 (.reg false [0, 1, 5, 6] [
 oQ 16 (.bin .add (.t 6) (.c (.int .i64 1))), oQ 6 (.mov (.t 16))])))))))
def rc_term_walk : RC :=
 (.seq
 (.reg false [1, 2] [
 oQ 2 (.box (.t 0)), oQ 4 (.mov (.c (.bool false)))])
 (.seq
 (.seq
 (.reg false [1, 2, 9] [
 oQ 7 (.fptr 0 (.t 2)), oQ 8 (.load false 1 (.t 7)), oQ 9 (.bin .eql (.t 8) (.c (.int .i64 1)))])
 (.cond (.t 9)
 (.seq
 (.reg false [4] [
 oQ 10 (.mov (.t 1)), oQ 11 (.fptr 1 (.t 2)), oQ 12 (.load false 1 (.t 11)), oQ 13 (.callv (.t 10) [(.t 12)]), oQ 4 (.mov (.t 13))])
 .ret)
 .skip))
 (.seq
 (.seq
 (.reg false [1, 15, 16, 17] [
 oQ 14 (.load true 4 (.t 2)), oQ 15 (.call (.c (.fn (.func 108) [] [])) [(.t 14)]), oQ 16 (.len false (.t 15)), oQ 17 (.mov (.c (.int .i64 0)))])
 (.block 0
 (.loop
 (.seq
 (.reg false [1, 15, 16, 17, 18] [
 oQ 18 (.bin .lss (.t 17) (.t 16))])
 (.seq
 (.cond (.t 18)
 .skip
 (.exit 0))
 (.seq
 (.block 1
 (.seq
 (.reg false [1, 6, 15, 16, 17] [
 oQ 19 (.idx 4 (.t 15) (.t 17)), oQ 20 (.load true 4 (.t 19)), oQ 6 (.box (.c (.agg [(.int .i64 0), (.int .i64 0), (.str ⟨⟨[]⟩⟩), (.sl .full [])]))), oN (.store 4 (.t 6) (.t 20))])
 (.seq
 (.reg false [1, 15, 16, 17, 24] [
 oQ 21 (.load true 4 (.t 6)), oQ 22 (.mov (.t 1)), oQ 23 (.call (.c (.fn (.func 99) [] [])) [(.t 21), (.t 22)]), oQ 24 (.un .not (.t 23))])
 (.cond (.t 24)
 (.seq
 (.reg false [4] [
 oQ 4 (.mov (.c (.bool false)))])
 .ret)
 .skip))))
 (.reg false [1, 15, 16, 17] [
 oQ 25 (.bin .add (.t 17) (.c (.int .i64 1))), oQ 17 (.mov (.t 25))])))))))
 (.seq
 (.reg false [4] [
 oQ 4 (.mov (.c (.bool true)))])
 .ret))))
def rc_constraintref03_vars : RC :=
 (.seq
 (.reg false [0, 3] [
 oQ 3 (.box (.t 1)), oQ 4 (.mov (.c (.sl .full [])))])
 (.seq
 (.seq
 (.reg false [0, 3, 16] [
 oQ 7 (.fptr 0 (.t 3)), oQ 8 (.load false 1 (.t 7)), oQ 9 (.bin .eql (.t 8) (.c (.int .i64 1))), oQ 10 (.mov (.t 9)), oG 11 10 true (.mov (.t 0)), oG 12 10 true (.fptr 1 (.t 3)), oG 13 10 true (.load false 1 (.t 12)), oG 14 10 true (.call (.c (.fn (.func 100) [] [])) [(.t 11), (.t 13)]), oG 15 10 true (.un .not (.t 14)), oQ 16 (.pick (.t 10) (.t 15) (.c (.bool false)))])
 (.cond (.t 16)
 (.reg false [0, 3] [
 oQ 17 (.mov (.t 0)), oQ 18 (.fptr 1 (.t 3)), oQ 19 (.load false 1 (.t 18)), oQ 20 (.bslice 1 [(.t 19)]), oQ 21 (.eff (.appB 1) [(.t 17), (.t 20)]), oQ 0 (.mov (.t 21))])
 .skip))
 (.seq
 (.reg false [0, 5] [
 oQ 22 (.load true 4 (.t 3)), oQ 23 (.call (.c (.fn (.func 101) [] [])) [(.t 22)]), oQ 5 (.mov (.t 23))])
 (.seq
 (.seq
 (.reg false [0, 5, 6] [
 oQ 6 (.mov (.c (.int .i64 0)))])
 (.block 0
 (.loop
 (.seq
 (.seq
 (.reg false [0, 5, 6, 27] [
 oQ 24 (.mov (.t 6)), oQ 25 (.mov (.t 5)), oQ 26 (.len false (.t 25)), oQ 27 (.bin .lss (.t 24) (.t 26))])
 (.cond (.t 27)
 .skip
 (.exit 0)))
 (.seq
 (.block 1
 (.reg false [0, 5, 6] [
 oQ 30 (.mov (.t 0)), oQ 31 (.mov (.t 5)), oQ 32 (.mov (.t 6)), oQ 33 (.idx 4 (.t 31) (.t 32)), oQ 34 (.load true 4 (.t 33)), oQ 35 (.call (.c (.fn (.func 85) [] [])) [(.t 30), (.t 34)]), oQ 0 (.mov (.t 35))]))
 (.reg false [0, 5, 6] [
 oQ 28 (.mov (.t 6)), oQ 29 (.bin .add (.t 28) (.c (.int .i64 1))), oQ 6 (.mov (.t 29))]))))))
 (.seq
 (.reg false [4] [
 oQ 36 (.mov (.t 0)), oQ 4 (.mov (.t 36))])
 .ret)))))
def rc_constraintref03_VarsOf : RC :=
 (.seq
 (.reg false [0] [
 oQ 2 (.mov (.c (.sl .full [])))])
 (.seq
 (.reg false [0, 3] [
 oQ 3 (.mov (.c (.sl .full [])))])
 (.seq
 (.seq
 (.reg false [0, 3, 4] [
 oQ 4 (.mov (.c (.int .i64 0)))])
 (.block 0
 (.loop
 (.seq
 (.seq
 (.reg false [0, 3, 4, 8] [
 oQ 5 (.mov (.t 4)), oQ 6 (.mov (.t 0)), oQ 7 (.len false (.t 6)), oQ 8 (.bin .lss (.t 5) (.t 7))])
 (.cond (.t 8)
 .skip
 (.exit 0)))
 (.seq
 (.block 1
 (.reg false [0, 3, 4] [
 oQ 11 (.mov (.t 3)), oQ 12 (.mov (.t 0)), oQ 13 (.mov (.t 4)), oQ 14 (.idx 4 (.t 12) (.t 13)), oQ 15 (.load true 4 (.t 14)), oQ 16 (.call (.c (.fn (.func 85) [] [])) [(.t 11), (.t 15)]), oQ 3 (.mov (.t 16))]))
 (.reg false [0, 3, 4] [
 oQ 9 (.mov (.t 4)), oQ 10 (.bin .add (.t 9) (.c (.int .i64 1))), oQ 4 (.mov (.t 10))]))))))
 (.seq
 (.reg false [2] [
 oQ 17 (.mov (.t 3)), oQ 2 (.mov (.t 17))])
 .ret))))
def rc_constraintref03_Vars : RC :=
 (.seq
 (.reg false [1] [
 oQ 1 (.box (.t 0)), oQ 2 (.mov (.c (.sl .full [])))])
 (.seq
 (.reg false [2] [
 oQ 3 (.load true 4 (.t 1)), oQ 4 (.call (.c (.fn (.func 85) [] [])) [(.c (.sl .full [])), (.t 3)]), oQ 2 (.mov (.t 4))])
 .ret))
def rc_constraintref03_SameInts : RC :=
 (.seq
 (.reg false [0, 1] [
 oQ 4 (.mov (.c (.bool false)))])
 (.seq
 (.seq
 (.reg false [0, 1, 10] [
 oQ 6 (.mov (.t 0)), oQ 7 (.len false (.t 6)), oQ 8 (.mov (.t 1)), oQ 9 (.len false (.t 8)), oQ 10 (.bin .neq (.t 7) (.t 9))])
 (.cond (.t 10)
 (.seq
 (.reg false [4] [
 oQ 4 (.mov (.c (.bool false)))])
 .ret)
 .skip))
 (.seq
 (.seq
 (.reg false [0, 1, 5] [
 oQ 5 (.mov (.c (.int .i64 0)))])
 (.block 0
 (.loop
 (.seq
 (.seq
 (.reg false [0, 1, 5, 20] [
 oQ 11 (.mov (.t 5)), oQ 12 (.mov (.t 0)), oQ 13 (.len false (.t 12)), oQ 14 (.bin .lss (.t 11) (.t 13)), oQ 15 (.mov (.t 14)), oG 16 15 true (.mov (.t 5)), oG 17 15 true (.mov (.t 1)), oG 18 15 true (.len false (.t 17)), oG 19 15 true (.bin .lss (.t 16) (.t 18)), oQ 20 (.pick (.t 15) (.t 19) (.c (.bool false)))])
 (.cond (.t 20)
 .skip
 (.exit 0)))
 (.seq
 (.block 1
 (.seq
 (.reg true [0, 1, 5, 31] [
 oQ 23 (.mov (.t 0)), oQ 24 (.mov (.t 5)), oQ 25 (.idx 1 (.t 23) (.t 24)), oQ 26 (.load false 1 (.t 25)), oQ 27 (.mov (.t 1)), oQ 28 (.mov (.t 5)), oQ 29 (.idx 1 (.t 27) (.t 28)), oQ 30 (.load false 1 (.t 29)), oQ 31 (.bin .neq (.t 26) (.t 30))])
 (.cond (.t 31)
 (.seq
 (.reg false [4] [
 oQ 4 (.mov (.c (.bool false)))])
 .ret)
 .skip)))
 (.reg false [0, 1, 5] [
 oQ 21 (.mov (.t 5)), oQ 22 (.bin .add (.t 21) (.c (.int .i64 1))), oQ 5 (.mov (.t 22))]))))))
 (.seq
 (.reg false [4] [
 oQ 4 (.mov (.c (.bool true)))])
 .ret))))
theorem op_constraintref03_SameInts (hn : vals.length ≤ 32) (h : SP Tryz.prog true vals bs rc_constraintref03_SameInts [.slot 4] Q) : AM.Sem Tryz.prog 13 vals bs Q :=
  Sem.nrm (Sem.of (fn := Tryz.f13) (keeps := [(0, [0, 1]), (1, [0, 1, 10]), (2, [4]), (3, [0, 1, 5]), (4, [0, 1, 5, 20]), (6, [0, 1, 5, 31]), (7, [4]), (5, [0, 1, 5]), (8, [4])]) (solo := []) Tryz.func13 rfl (by kernel_rfl) (by kernel_rfl) (by kernel_rfl) hn (run_gp h))

def rc_constraintref03_GreatAtoms : RC :=
 (.seq
 (.reg false [0, 1] [
 oQ 4 (.mov (.c (.bool false)))])
 (.seq
 (.seq
 (.reg false [0, 1, 5] [
 oQ 5 (.mov (.c (.int .i64 0)))])
 (.block 0
 (.loop
 (.seq
 (.seq
 (.reg false [0, 1, 5, 13] [
 oQ 6 (.mov (.t 5)), oQ 7 (.mov (.t 0)), oQ 8 (.len false (.t 7)), oQ 9 (.bin .lss (.t 6) (.t 8)), oQ 10 (.mov (.t 9)), oG 11 10 true (.mov (.t 1)), oG 12 10 true (.bin .geq (.t 11) (.c (.int .i64 0))), oQ 13 (.pick (.t 10) (.t 12) (.c (.bool false)))])
 (.cond (.t 13)
 .skip
 (.exit 0)))
 (.seq
 (.block 1
 (.reg true [0, 1, 5] [
 oQ 16 (.mov (.t 0)), oQ 17 (.mov (.t 5)), oQ 18 (.idx 2 (.t 16) (.t 17)), oQ 19 (.fptr 1 (.t 18)), oQ 20 (.load false 1 (.t 19)), oQ 21 (.mov (.t 1)), oQ 22 (.bin .sub (.t 21) (.c (.int .i64 1))), oQ 23 (.mov (.t 0)), oQ 24 (.mov (.t 5)), oQ 25 (.idx 2 (.t 23) (.t 24)), oQ 26 (.fptr 0 (.t 25)), oQ 27 (.load false 1 (.t 26)), oQ 28 (.len true (.t 27)), oQ 29 (.bin .quo (.t 28) (.c (.int .i64 8))), oQ 30 (.bin .sub (.t 22) (.t 29)), oQ 31 (.call (.c (.fn (.func 56) [] [])) [(.t 20), (.t 30), (.c (.int .i64 64))]), oQ 1 (.take 31)]))
 (.reg false [0, 1, 5] [
 oQ 14 (.mov (.t 5)), oQ 15 (.bin .add (.t 14) (.c (.int .i64 1))), oQ 5 (.mov (.t 15))]))))))
 (.seq
 (.reg false [4] [
 oQ 32 (.mov (.t 1)), oQ 33 (.bin .lss (.t 32) (.c (.int .i64 0))), oQ 4 (.mov (.t 33))])
 .ret)))
theorem op_constraintref03_GreatAtoms (hn : vals.length ≤ 34) (h : SP Tryz.prog true vals bs rc_constraintref03_GreatAtoms [.slot 4] Q) : AM.Sem Tryz.prog 30 vals bs Q :=
  Sem.nrm (Sem.of (fn := Tryz.f30) (keeps := [(0, [0, 1]), (1, [0, 1, 5]), (2, [0, 1, 5, 13]), (4, [0, 1, 5]), (3, [0, 1, 5]), (5, [4])]) (solo := []) Tryz.func30 rfl (by kernel_rfl) (by kernel_rfl) (by kernel_rfl) hn (run_gp h))

def rc_constraintref03_GreatGoals : RC :=
 (.seq
 (.reg false [0, 1] [
 oQ 4 (.mov (.c (.bool false)))])
 (.seq
 (.seq
 (.reg false [0, 1, 5] [
 oQ 5 (.mov (.c (.int .i64 0)))])
 (.block 0
 (.loop
 (.seq
 (.seq
 (.reg false [0, 1, 5, 13] [
 oQ 6 (.mov (.t 5)), oQ 7 (.mov (.t 0)), oQ 8 (.len false (.t 7)), oQ 9 (.bin .lss (.t 6) (.t 8)), oQ 10 (.mov (.t 9)), oG 11 10 true (.mov (.t 1)), oG 12 10 true (.bin .geq (.t 11) (.c (.int .i64 0))), oQ 13 (.pick (.t 10) (.t 12) (.c (.bool false)))])
 (.cond (.t 13)
 .skip
 (.exit 0)))
 (.seq
 (.block 1
 (.reg true [0, 1, 5] [
 oQ 16 (.mov (.t 0)), oQ 17 (.mov (.t 5)), oQ 18 (.idx 3 (.t 16) (.t 17)), oQ 19 (.fptr 2 (.t 18)), oQ 20 (.load false 1 (.t 19)), oQ 21 (.mov (.t 1)), oQ 22 (.bin .sub (.t 21) (.c (.int .i64 1))), oQ 23 (.mov (.t 0)), oQ 24 (.mov (.t 5)), oQ 25 (.idx 3 (.t 23) (.t 24)), oQ 26 (.fptr 1 (.t 25)), oQ 27 (.load false 1 (.t 26)), oQ 28 (.len true (.t 27)), oQ 29 (.bin .quo (.t 28) (.c (.int .i64 8))), oQ 30 (.bin .sub (.t 22) (.t 29)), oQ 31 (.call (.c (.fn (.func 56) [] [])) [(.t 20), (.t 30), (.c (.int .i64 64))]), oQ 1 (.take 31)]))
 (.reg false [0, 1, 5] [
 oQ 14 (.mov (.t 5)), oQ 15 (.bin .add (.t 14) (.c (.int .i64 1))), oQ 5 (.mov (.t 15))]))))))
 (.seq
 (.reg false [4] [
 oQ 32 (.mov (.t 1)), oQ 33 (.bin .lss (.t 32) (.c (.int .i64 0))), oQ 4 (.mov (.t 33))])
 .ret)))
theorem op_constraintref03_GreatGoals (hn : vals.length ≤ 34) (h : SP Tryz.prog true vals bs rc_constraintref03_GreatGoals [.slot 4] Q) : AM.Sem Tryz.prog 31 vals bs Q :=
  Sem.nrm (Sem.of (fn := Tryz.f31) (keeps := [(0, [0, 1]), (1, [0, 1, 5]), (2, [0, 1, 5, 13]), (4, [0, 1, 5]), (3, [0, 1, 5]), (5, [4])]) (solo := []) Tryz.func31 rfl (by kernel_rfl) (by kernel_rfl) (by kernel_rfl) hn (run_gp h))

def rc_constraintref03_GreatRules : RC :=
 (.seq
 (.reg false [0, 1] [
 oQ 4 (.mov (.c (.bool false)))])
 (.seq
 (.seq
 (.reg false [0, 1, 5] [
 oQ 5 (.mov (.c (.int .i64 0)))])
 (.block 0
 (.loop
 (.seq
 (.seq
 (.reg false [0, 1, 5, 10] [
 oQ 7 (.mov (.t 5)), oQ 8 (.mov (.t 0)), oQ 9 (.len false (.t 8)), oQ 10 (.bin .lss (.t 7) (.t 9))])
 (.cond (.t 10)
 .skip
 (.exit 0)))
 (.seq
 (.block 1
 (.seq
 (.reg false [0, 1, 5, 6] [
 oQ 13 (.mov (.t 0)), oQ 14 (.mov (.t 5)), oQ 15 (.idx 6 (.t 13) (.t 14)), oQ 16 (.load true 6 (.t 15)), oQ 6 (.box (.c (.agg [(.str ⟨⟨[]⟩⟩), (.sl .full []), (.sl .full []), (.sl .full []), (.sl .full []), (.int .i64 0)]))), oN (.store 6 (.t 6) (.t 16))])
 (.seq
 (.reg false [0, 1, 5, 60] [
 oQ 17 (.mov (.t 0)), oQ 18 (.len false (.t 17)), oQ 19 (.mov (.t 1)), oQ 20 (.bin .gtr (.t 18) (.t 19)), oQ 21 (.mov (.t 20)), oG 22 21 false (.fptr 0 (.t 6)), oG 23 21 false (.load false 1 (.t 22)), oG 24 21 false (.len true (.t 23)), oG 25 21 false (.bin .quo (.t 24) (.c (.int .i64 8))), oG 26 21 false (.fptr 1 (.t 6)), oG 27 21 false (.load false 1 (.t 26)), oG 28 21 false (.len false (.t 27)), oG 29 21 false (.bin .add (.t 25) (.t 28)), oG 30 21 false (.fptr 2 (.t 6)), oG 31 21 false (.load false 1 (.t 30)), oG 32 21 false (.len false (.t 31)), oG 33 21 false (.bin .add (.t 29) (.t 32)), oG 34 21 false (.mov (.t 1)), oG 35 21 false (.bin .gtr (.t 33) (.t 34)), oQ 36 (.pick (.t 21) (.c (.bool true)) (.t 35)), oQ 37 (.mov (.t 36)), oG 38 37 false (.fptr 1 (.t 6)), oG 39 37 false (.load false 1 (.t 38)), oG 40 37 false (.mov (.t 1)), oG 41 37 false (.call (.c (.fn (.func 30) [] [])) [(.t 39), (.t 40)]), oQ 42 (.pick (.t 37) (.c (.bool true)) (.t 41)), oQ 43 (.mov (.t 42)), oG 44 43 false (.fptr 2 (.t 6)), oG 45 43 false (.load false 1 (.t 44)), oG 46 43 false (.mov (.t 1)), oG 47 43 false (.call (.c (.fn (.func 30) [] [])) [(.t 45), (.t 46)]), oQ 48 (.pick (.t 43) (.c (.bool true)) (.t 47)), oQ 49 (.mov (.t 48)), oG 50 49 false (.fptr 3 (.t 6)), oG 51 49 false (.load false 1 (.t 50)), oG 52 49 false (.mov (.t 1)), oG 53 49 false (.call (.c (.fn (.func 31) [] [])) [(.t 51), (.t 52)]), oQ 54 (.pick (.t 49) (.c (.bool true)) (.t 53)), oQ 55 (.mov (.t 54)), oG 56 55 false (.fptr 4 (.t 6)), oG 57 55 false (.load false 1 (.t 56)), oG 58 55 false (.mov (.t 1)), oG 59 55 false (.call (.c (.fn (.func 31) [] [])) [(.t 57), (.t 58)]), oQ 60 (.pick (.t 55) (.c (.bool true)) (.t 59))])
 (.cond (.t 60)
 (.seq
 (.reg false [4] [
 oQ 4 (.mov (.c (.bool true)))])
 .ret)
 .skip))))
 (.reg false [0, 1, 5] [
 oQ 11 (.mov (.t 5)), oQ 12 (.bin .add (.t 11) (.c (.int .i64 1))), oQ 5 (.mov (.t 12))]))))))
 (.seq
 (.reg false [4] [
 oQ 4 (.mov (.c (.bool false)))])
 .ret)))
theorem op_constraintref03_GreatRules (hn : vals.length ≤ 61) (h : SP Tryz.prog true vals bs rc_constraintref03_GreatRules [.slot 4] Q) : AM.Sem Tryz.prog 11 vals bs Q :=
  Sem.nrm (Sem.of (fn := Tryz.f11) (keeps := [(0, [0, 1]), (1, [0, 1, 5]), (2, [0, 1, 5, 10]), (4, [0, 1, 5, 6]), (5, [0, 1, 5, 60]), (6, [4]), (3, [0, 1, 5]), (7, [4])]) (solo := []) Tryz.func11 rfl (by kernel_rfl) (by kernel_rfl) (by kernel_rfl) hn (run_gp h))

def rc_constraintref03_Var : RC :=
 (.seq
 (.reg false [0, 2] [
 oQ 2 (.box (.c (.agg [(.int .i64 0), (.int .i64 0), (.str ⟨⟨[]⟩⟩), (.sl .full [])])))])
 (.seq
 (.reg false [2] [
 oQ 3 (.mov (.t 0)), oQ 4 (.build [(.int .i64 0), (.int .i64 0), (.str ⟨⟨[]⟩⟩), (.sl .full [])] [(0, 1, (.c (.int .i64 1))), (1, 1, (.t 3))]), oN (.store 4 (.t 2) (.t 4))])
 .ret))
theorem op_constraintref03_Var (hn : vals.length ≤ 5) (h : SP Tryz.prog true vals bs rc_constraintref03_Var [.cell 2 true 4] Q) : AM.Sem Tryz.prog 32 vals bs Q :=
  Sem.nrm (Sem.of (fn := Tryz.f32) (keeps := [(0, [0, 2]), (1, [2])]) (solo := []) Tryz.func32 rfl (by kernel_rfl) (by kernel_rfl) (by kernel_rfl) hn (run_gp h))

def rc_constraintref03_args : RC :=
 (.seq
 (.reg false [1] [
 oQ 1 (.box (.t 0)), oQ 2 (.mov (.c (.sl .full [])))])
 (.seq
 (.seq
 (.reg false [1, 5] [
 oQ 3 (.fptr 0 (.t 1)), oQ 4 (.load false 1 (.t 3)), oQ 5 (.bin .eql (.t 4) (.c (.int .i64 2)))])
 (.cond (.t 5)
 (.seq
 (.reg false [2] [
 oQ 6 (.fptr 3 (.t 1)), oQ 7 (.load false 1 (.t 6)), oQ 2 (.mov (.t 7))])
 .ret)
 .skip))
 (.seq
 (.reg false [2] [
 oQ 2 (.mov (.c (.sl .full [])))])
 .ret)))
theorem op_constraintref03_args (hn : vals.length ≤ 8) (h : SP Tryz.prog true vals bs rc_constraintref03_args [.slot 2] Q) : AM.Sem Tryz.prog 101 vals bs Q :=
  Sem.nrm (Sem.of (fn := Tryz.f101) (keeps := [(0, [1]), (1, [1, 5]), (2, [2]), (3, [2])]) (solo := []) Tryz.func101 rfl (by kernel_rfl) (by kernel_rfl) (by kernel_rfl) hn (run_gp h))

def rc_constraintref03_weigh : RC :=
 (.seq
 (.reg false [0, 1, 2] [
 oQ 6 (.mov (.c (.int .i64 0)))])
 (.seq
 (.seq
 (.reg false [0, 1, 2, 15] [
 oQ 8 (.mov (.t 2)), oQ 9 (.bin .eql (.t 8) (.c (.int .i64 0))), oQ 10 (.mov (.t 9)), oG 11 10 false (.mov (.t 0)), oG 12 10 false (.len false (.t 11)), oG 13 10 false (.mov (.t 1)), oG 14 10 false (.bin .gtr (.t 12) (.t 13)), oQ 15 (.pick (.t 10) (.c (.bool true)) (.t 14))])
 (.cond (.t 15)
 (.seq
 (.reg false [6] [
 oQ 6 (.mov (.c (.int .i64 (-1))))])
 .ret)
 .skip))
 (.seq
 (.seq
 (.reg false [0, 1, 2, 7] [
 oQ 7 (.mov (.c (.int .i64 0)))])
 (.block 0
 (.loop
 (.seq
 (.seq
 (.reg false [0, 1, 2, 7, 23] [
 oQ 16 (.mov (.t 7)), oQ 17 (.mov (.t 0)), oQ 18 (.len false (.t 17)), oQ 19 (.bin .lss (.t 16) (.t 18)), oQ 20 (.mov (.t 19)), oG 21 20 true (.mov (.t 1)), oG 22 20 true (.bin .geq (.t 21) (.c (.int .i64 0))), oQ 23 (.pick (.t 20) (.t 22) (.c (.bool false)))])
 (.cond (.t 23)
 .skip
 (.exit 0)))
 (.seq
 (.block 1
 (.reg true [0, 1, 2, 7] [
 oQ 26 (.mov (.t 0)), oQ 27 (.mov (.t 7)), oQ 28 (.idx 4 (.t 26) (.t 27)), oQ 29 (.fptr 3 (.t 28)), oQ 30 (.load false 1 (.t 29)), oQ 31 (.mov (.t 1)), oQ 32 (.bin .sub (.t 31) (.c (.int .i64 1))), oQ 33 (.mov (.t 0)), oQ 34 (.mov (.t 7)), oQ 35 (.idx 4 (.t 33) (.t 34)), oQ 36 (.fptr 2 (.t 35)), oQ 37 (.load false 1 (.t 36)), oQ 38 (.len true (.t 37)), oQ 39 (.bin .quo (.t 38) (.c (.int .i64 8))), oQ 40 (.bin .sub (.t 32) (.t 39)), oQ 41 (.mov (.t 2)), oQ 42 (.bin .sub (.t 41) (.c (.int .i64 1))), oQ 43 (.call (.c (.fn (.func 56) [] [])) [(.t 30), (.t 40), (.t 42)]), oQ 1 (.take 43)]))
 (.reg false [0, 1, 2, 7] [
 oQ 24 (.mov (.t 7)), oQ 25 (.bin .add (.t 24) (.c (.int .i64 1))), oQ 7 (.mov (.t 25))]))))))
 (.seq
 (.reg false [6] [
 oQ 44 (.mov (.t 1)), oQ 6 (.mov (.t 44))])
 .ret))))
theorem op_constraintref03_weigh (hn : vals.length ≤ 45) (h : SP Tryz.prog true vals bs rc_constraintref03_weigh [.slot 6] Q) : AM.Sem Tryz.prog 56 vals bs Q :=
  Sem.nrm (Sem.of (fn := Tryz.f56) (keeps := [(0, [0, 1, 2]), (1, [0, 1, 2, 15]), (2, [6]), (3, [0, 1, 2, 7]), (4, [0, 1, 2, 7, 23]), (6, [0, 1, 2, 7]), (5, [0, 1, 2, 7]), (7, [6])]) (solo := []) Tryz.func56 rfl (by kernel_rfl) (by kernel_rfl) (by kernel_rfl) hn (run_gp h))

def rc_constraintref03_has : RC :=
 (.seq
 (.reg false [0, 1] [
 oQ 4 (.mov (.c (.bool false)))])
 (.seq
 (.seq
 (.reg false [0, 1, 5] [
 oQ 5 (.mov (.c (.int .i64 0)))])
 (.block 0
 (.loop
 (.seq
 (.seq
 (.reg false [0, 1, 5, 9] [
 oQ 6 (.mov (.t 5)), oQ 7 (.mov (.t 0)), oQ 8 (.len false (.t 7)), oQ 9 (.bin .lss (.t 6) (.t 8))])
 (.cond (.t 9)
 .skip
 (.exit 0)))
 (.seq
 (.block 1
 (.seq
 (.reg false [0, 1, 5, 17] [
 oQ 12 (.mov (.t 0)), oQ 13 (.mov (.t 5)), oQ 14 (.idx 1 (.t 12) (.t 13)), oQ 15 (.load false 1 (.t 14)), oQ 16 (.mov (.t 1)), oQ 17 (.bin .eql (.t 15) (.t 16))])
 (.cond (.t 17)
 (.seq
 (.reg false [4] [
 oQ 4 (.mov (.c (.bool true)))])
 .ret)
 .skip)))
 (.reg false [0, 1, 5] [
 oQ 10 (.mov (.t 5)), oQ 11 (.bin .add (.t 10) (.c (.int .i64 1))), oQ 5 (.mov (.t 11))]))))))
 (.seq
 (.reg false [4] [
 oQ 4 (.mov (.c (.bool false)))])
 .ret)))
theorem op_constraintref03_has (hn : vals.length ≤ 18) (h : SP Tryz.prog true vals bs rc_constraintref03_has [.slot 4] Q) : AM.Sem Tryz.prog 100 vals bs Q :=
  Sem.nrm (Sem.of (fn := Tryz.f100) (keeps := [(0, [0, 1]), (1, [0, 1, 5]), (2, [0, 1, 5, 9]), (4, [0, 1, 5, 17]), (5, [4]), (3, [0, 1, 5]), (6, [4])]) (solo := []) Tryz.func100 rfl (by kernel_rfl) (by kernel_rfl) (by kernel_rfl) hn (run_gp h))

def rc_constraintref03_GoalVars : RC :=
 (.seq
 (.reg false [1] [
 oQ 1 (.box (.t 0)), oQ 2 (.mov (.c (.sl .full [])))])
 (.seq
 (.reg false [2] [
 oQ 3 (.fptr 2 (.t 1)), oQ 4 (.load false 1 (.t 3)), oQ 5 (.call (.c (.fn (.func 72) [] [])) [(.t 4)]), oQ 2 (.mov (.t 5))])
 .ret))
theorem op_constraintref03_GoalVars (hn : vals.length ≤ 6) (h : SP Tryz.prog true vals bs rc_constraintref03_GoalVars [.slot 2] Q) : AM.Sem Tryz.prog 86 vals bs Q :=
  Sem.nrm (Sem.of (fn := Tryz.f86) (keeps := [(0, [1]), (1, [2])]) (solo := []) Tryz.func86 rfl (by kernel_rfl) (by kernel_rfl) (by kernel_rfl) hn (run_gp h))

def rc_occur_Heads : RC :=
 (.seq
 (.reg false [1] [
 oQ 1 (.box (.t 0)), oQ 2 (.mov (.c (.sl .full [])))])
 (.seq
 (.reg false [1, 3] [
 oQ 4 (.load true 6 (.t 1)), oQ 5 (.call (.c (.fn (.func 65) [] [])) [(.t 4)]), oQ 6 (.mk 2 (.agg [(.str ⟨⟨[]⟩⟩), (.sl .full [])]) (.c (.int .i64 0)) (.t 5)), oQ 3 (.mov (.t 6))])
 (.seq
 (.reg false [1, 3] [
 oQ 7 (.mov (.t 3)), oQ 8 (.fptr 1 (.t 1)), oQ 9 (.load false 1 (.t 8)), oQ 10 (.append 2 (.t 7) (.t 9)), oQ 3 (.mov (.t 10))])
 (.seq
 (.reg false [2] [
 oQ 11 (.mov (.t 3)), oQ 12 (.fptr 2 (.t 1)), oQ 13 (.load false 1 (.t 12)), oQ 14 (.append 2 (.t 11) (.t 13)), oQ 2 (.mov (.t 14))])
 .ret))))
theorem op_occur_Heads (hn : vals.length ≤ 15) (h : SP Tryz.prog true vals bs rc_occur_Heads [.slot 2] Q) : AM.Sem Tryz.prog 46 vals bs Q :=
  Sem.nrm (Sem.of (fn := Tryz.f46) (keeps := [(0, [1]), (1, [1, 3]), (2, [1, 3]), (3, [2])]) (solo := []) Tryz.func46 rfl (by kernel_rfl) (by kernel_rfl) (by kernel_rfl) hn (run_gp h))

def rc_occur_count : RC :=
 (.seq
 (.reg false [1] [
 oQ 1 (.box (.t 0)), oQ 2 (.mov (.c (.int .i64 0)))])
 (.seq
 (.reg false [2] [
 oQ 3 (.fptr 1 (.t 1)), oQ 4 (.load false 1 (.t 3)), oQ 5 (.len false (.t 4)), oQ 6 (.fptr 2 (.t 1)), oQ 7 (.load false 1 (.t 6)), oQ 8 (.len false (.t 7)), oQ 9 (.bin .add (.t 5) (.t 8)), oQ 2 (.mov (.t 9))])
 .ret))
theorem op_occur_count (hn : vals.length ≤ 10) (h : SP Tryz.prog true vals bs rc_occur_count [.slot 2] Q) : AM.Sem Tryz.prog 65 vals bs Q :=
  Sem.nrm (Sem.of (fn := Tryz.f65) (keeps := [(0, [1]), (1, [2])]) (solo := []) Tryz.func65 rfl (by kernel_rfl) (by kernel_rfl) (by kernel_rfl) hn (run_gp h))

def rc_occur_Propagation : RC :=
 (.seq
 (.reg false [1] [
 oQ 1 (.box (.t 0)), oQ 2 (.mov (.c (.bool false)))])
 (.seq
 (.reg false [2] [
 oQ 3 (.fptr 2 (.t 1)), oQ 4 (.load false 1 (.t 3)), oQ 5 (.len false (.t 4)), oQ 6 (.bin .eql (.t 5) (.c (.int .i64 0))), oQ 2 (.mov (.t 6))])
 .ret))
theorem op_occur_Propagation (hn : vals.length ≤ 7) (h : SP Tryz.prog true vals bs rc_occur_Propagation [.slot 2] Q) : AM.Sem Tryz.prog 60 vals bs Q :=
  Sem.nrm (Sem.of (fn := Tryz.f60) (keeps := [(0, [1]), (1, [2])]) (solo := []) Tryz.func60 rfl (by kernel_rfl) (by kernel_rfl) (by kernel_rfl) hn (run_gp h))

def rc_occur_All : RC :=
 (.seq
 (.reg false [1, 2] [
 oQ 1 (.box (.t 0)), oQ 2 (.mov (.c (.sl .full [])))])
 (.seq
 (.reg false [1, 2, 3] [
 oQ 3 (.box (.c (.sl .full [])))])
 (.seq
 (.seq
 (.reg false [2, 3, 6] [
 oQ 5 (.load true 2 (.t 1)), oQ 6 (.call (.c (.fn (.func 42) [] [])) [(.t 5)])])
 (.block 0
 (.range (.t 6) [7, 8]
 (.reg false [3, 4] [
 oQ 4 (.box (.c (.agg [(.int .i64 0), (.int .i64 0), (.bool false)]))), oN (.store 3 (.t 4) (.t 7))])
 (.block 1
 (.reg false [] [
 oQ 9 (.load false 1 (.t 3)), oQ 10 (.load true 3 (.t 4)), oQ 11 (.bslice 3 [(.t 10)]), oQ 12 (.append 3 (.t 9) (.t 11)), oN (.store 1 (.t 3) (.t 12))])))))
 (.seq
 (.reg false [2] [
 oQ 13 (.load false 1 (.t 3)), oQ 2 (.mov (.t 13))])
 .ret))))
theorem op_occur_All (hn : vals.length ≤ 14) (h : SP Tryz.prog true vals bs rc_occur_All [.slot 2] Q) : AM.Sem Tryz.prog 17 vals bs Q :=
  Sem.nrm (Sem.of (fn := Tryz.f17) (keeps := [(0, [1, 2]), (1, [1, 2, 3]), (2, [2, 3, 6]), (3, [3, 4]), (4, []), (5, [2])]) (solo := []) Tryz.func17 rfl (by kernel_rfl) (by kernel_rfl) (by kernel_rfl) hn (run_gp h))

def rc_occur_each : RC :=
 (.seq
 (.reg false [1] [
 oQ 1 (.box (.t 0)), oQ 2 (.mov (.c .nfn))])
 (.seq
 (.reg false [2] [
 oQ 3 (.mkfn (.func 63) [] [(.t 1)]), oQ 2 (.mov (.t 3))])
 .ret))
theorem op_occur_each (hn : vals.length ≤ 4) (h : SP Tryz.prog true vals bs rc_occur_each [.slot 2] Q) : AM.Sem Tryz.prog 42 vals bs Q :=
  Sem.nrm (Sem.of (fn := Tryz.f42) (keeps := [(0, [1]), (1, [2])]) (solo := []) Tryz.func42 rfl (by kernel_rfl) (by kernel_rfl) (by kernel_rfl) hn (run_gp h))

def rc_occur_each_1 : RC :=
 (.seq
 (.reg false [0, 8, 9, 10] [
 oQ 7 (.fptr 1 (.t 1)), oQ 8 (.load false 1 (.t 7)), oQ 9 (.len false (.t 8)), oQ 10 (.mov (.c (.int .i64 0)))])
 (.block 0
 (.loop
 (.seq
 (.reg false [0, 8, 9, 10, 11] [
 oQ 11 (.bin .lss (.t 10) (.t 9))])
 (.seq
 (.cond (.t 11)
 .skip
 (.exit 0))
 (.seq
 (.block 1
 (.seq
 (.reg false [0, 3, 4, 8, 9, 10] [
 oQ 12 (.mov (.t 10)), oQ 13 (.idx 6 (.t 8) (.t 10)), oQ 14 (.load true 6 (.t 13)), oQ 4 (.box (.c (.agg [(.str ⟨⟨[]⟩⟩), (.sl .full []), (.sl .full []), (.sl .full []), (.sl .full []), (.int .i64 0)]))), oQ 3 (.mov (.t 12)), oN (.store 6 (.t 4) (.t 14))])
 (.seq
 (.reg false [0, 3, 4, 5, 8, 9, 10] [
 oQ 15 (.load true 6 (.t 4)), oQ 16 (.call (.c (.fn (.func 46) [] [])) [(.t 15)]), oQ 5 (.mov (.t 16))])
 (.seq
 (.reg false [0, 3, 4, 5, 6, 8, 9, 10] [
 oQ 17 (.mov (.t 5)), oQ 18 (.len false (.t 17)), oQ 19 (.bin .sub (.t 18) (.c (.int .i64 1))), oQ 6 (.mov (.t 19))])
 (.block 2
 (.loop
 (.seq
 (.seq
 (.reg false [0, 3, 4, 5, 6, 8, 9, 10, 21] [
 oQ 20 (.mov (.t 6)), oQ 21 (.bin .geq (.t 20) (.c (.int .i64 0)))])
 (.cond (.t 21)
 .skip
 (.exit 2)))
 (.seq
 (.block 3
 (.seq
 (.solo 13 [0, 3, 4, 5, 6, 8, 9, 10, 38] [
 oQ 24 (.mov (.t 0)), oQ 25 (.mov (.t 3)), oQ 26 (.mov (.t 6)), oQ 27 (.mov (.t 6)), oQ 28 (.fptr 1 (.t 4)), oQ 29 (.load false 1 (.t 28)), oQ 30 (.len false (.t 29)), oQ 31 (.bin .lss (.t 27) (.t 30)), oQ 32 (.build [(.int .i64 0), (.int .i64 0), (.bool false)] [(0, 1, (.t 25)), (1, 1, (.t 26)), (2, 1, (.t 31))]), oQ 33 (.mov (.t 5)), oQ 34 (.mov (.t 6)), oQ 35 (.idx 2 (.t 33) (.t 34)), oQ 36 (.load true 2 (.t 35)), oQ 37 (.callv (.t 24) [(.t 32), (.t 36)]), oQ 38 (.un .not (.t 37))])
 (.cond (.t 38)
 .ret
 .skip)))
 (.reg false [0, 3, 4, 5, 6, 8, 9, 10] [
 oQ 22 (.mov (.t 6)), oQ 23 (.bin .sub (.t 22) (.c (.int .i64 1))), oQ 6 (.mov (.t 23))])))))))))
 (.reg false [0, 8, 9, 10] [
 oQ 39 (.bin .add (.t 10) (.c (.int .i64 1))), oQ 10 (.mov (.t 39))])))))))
def rc_constraintref16_Heads : RC :=
 (.seq
 (.reg false [1] [
 oQ 1 (.box (.t 0)), oQ 2 (.mov (.c (.sl .full [])))])
 (.seq
 (.reg false [1, 3] [
 oQ 3 (.mov (.c (.sl .full [])))])
 (.seq
 (.reg false [1, 3] [
 oQ 4 (.mov (.t 3)), oQ 5 (.fptr 1 (.t 1)), oQ 6 (.load false 1 (.t 5)), oQ 7 (.append 2 (.t 4) (.t 6)), oQ 3 (.mov (.t 7))])
 (.seq
 (.reg false [2] [
 oQ 8 (.mov (.t 3)), oQ 9 (.fptr 2 (.t 1)), oQ 10 (.load false 1 (.t 9)), oQ 11 (.append 2 (.t 8) (.t 10)), oQ 2 (.mov (.t 11))])
 .ret))))
theorem op_constraintref16_Heads (hn : vals.length ≤ 12) (h : SP Tryz.prog true vals bs rc_constraintref16_Heads [.slot 2] Q) : AM.Sem Tryz.prog 52 vals bs Q :=
  Sem.nrm (Sem.of (fn := Tryz.f52) (keeps := [(0, [1]), (1, [1, 3]), (2, [1, 3]), (3, [2])]) (solo := []) Tryz.func52 rfl (by kernel_rfl) (by kernel_rfl) (by kernel_rfl) hn (run_gp h))

def rc_constraintref16_All : RC :=
 (.seq
 (.reg false [1] [
 oQ 1 (.box (.t 0)), oQ 2 (.mov (.c (.sl .full [])))])
 (.seq
 (.reg false [1, 3] [
 oQ 3 (.mov (.c (.sl .full [])))])
 (.seq
 (.seq
 (.reg false [1, 3, 4] [
 oQ 4 (.mov (.c (.int .i64 0)))])
 (.block 0
 (.loop
 (.seq
 (.seq
 (.reg false [1, 3, 4, 11] [
 oQ 7 (.mov (.t 4)), oQ 8 (.fptr 1 (.t 1)), oQ 9 (.load false 1 (.t 8)), oQ 10 (.len false (.t 9)), oQ 11 (.bin .lss (.t 7) (.t 10))])
 (.cond (.t 11)
 .skip
 (.exit 0)))
 (.seq
 (.block 1
 (.seq
 (.reg false [1, 3, 4, 5] [
 oQ 14 (.fptr 1 (.t 1)), oQ 15 (.load false 1 (.t 14)), oQ 16 (.mov (.t 4)), oQ 17 (.idx 6 (.t 15) (.t 16)), oQ 18 (.fptr 1 (.t 17)), oQ 19 (.load false 1 (.t 18)), oQ 20 (.len false (.t 19)), oQ 5 (.mov (.t 20))])
 (.seq
 (.reg false [1, 3, 4, 5, 6] [
 oQ 21 (.mov (.t 5)), oQ 22 (.fptr 1 (.t 1)), oQ 23 (.load false 1 (.t 22)), oQ 24 (.mov (.t 4)), oQ 25 (.idx 6 (.t 23) (.t 24)), oQ 26 (.fptr 2 (.t 25)), oQ 27 (.load false 1 (.t 26)), oQ 28 (.len false (.t 27)), oQ 29 (.bin .add (.t 21) (.t 28)), oQ 30 (.bin .sub (.t 29) (.c (.int .i64 1))), oQ 6 (.mov (.t 30))])
 (.block 2
 (.loop
 (.seq
 (.seq
 (.reg false [1, 3, 4, 5, 6, 32] [
 oQ 31 (.mov (.t 6)), oQ 32 (.bin .geq (.t 31) (.c (.int .i64 0)))])
 (.cond (.t 32)
 .skip
 (.exit 2)))
 (.seq
 (.block 3
 (.reg false [1, 3, 4, 5, 6] [
 oQ 35 (.mov (.t 3)), oQ 36 (.mov (.t 4)), oQ 37 (.mov (.t 6)), oQ 38 (.mov (.t 6)), oQ 39 (.mov (.t 5)), oQ 40 (.bin .lss (.t 38) (.t 39)), oQ 41 (.build [(.int .i64 0), (.int .i64 0), (.bool false)] [(0, 1, (.t 36)), (1, 1, (.t 37)), (2, 1, (.t 40))]), oQ 42 (.bslice 3 [(.t 41)]), oQ 43 (.append 3 (.t 35) (.t 42)), oQ 3 (.mov (.t 43))]))
 (.reg false [1, 3, 4, 5, 6] [
 oQ 33 (.mov (.t 6)), oQ 34 (.bin .sub (.t 33) (.c (.int .i64 1))), oQ 6 (.mov (.t 34))]))))))))
 (.reg false [1, 3, 4] [
 oQ 12 (.mov (.t 4)), oQ 13 (.bin .add (.t 12) (.c (.int .i64 1))), oQ 4 (.mov (.t 13))]))))))
 (.seq
 (.reg false [2] [
 oQ 44 (.mov (.t 3)), oQ 2 (.mov (.t 44))])
 .ret))))
theorem op_constraintref16_All (hn : vals.length ≤ 45) (h : SP Tryz.prog true vals bs rc_constraintref16_All [.slot 2] Q) : AM.Sem Tryz.prog 19 vals bs Q :=
  Sem.nrm (Sem.of (fn := Tryz.f19) (keeps := [(0, [1]), (1, [1, 3]), (2, [1, 3, 4]), (3, [1, 3, 4, 11]), (5, [1, 3, 4, 5]), (6, [1, 3, 4, 5, 6]), (7, [1, 3, 4, 5, 6, 32]), (9, [1, 3, 4, 5, 6]), (8, [1, 3, 4, 5, 6]), (4, [1, 3, 4]), (10, [2])]) (solo := []) Tryz.func19 rfl (by kernel_rfl) (by kernel_rfl) (by kernel_rfl) hn (run_gp h))

def rc_constraintref16_Partners : RC :=
 (.seq
 (.reg false [2, 3] [
 oQ 2 (.box (.t 0)), oQ 3 (.box (.t 1)), oQ 4 (.mov (.c (.sl .full [])))])
 (.seq
 (.seq
 (.reg false [2, 3, 18] [
 oQ 8 (.fptr 0 (.t 3)), oQ 9 (.load false 1 (.t 8)), oQ 10 (.bin .lss (.t 9) (.c (.int .i64 0))), oQ 11 (.mov (.t 10)), oG 12 11 false (.fptr 0 (.t 3)), oG 13 11 false (.load false 1 (.t 12)), oG 14 11 false (.fptr 1 (.t 2)), oG 15 11 false (.load false 1 (.t 14)), oG 16 11 false (.len false (.t 15)), oG 17 11 false (.bin .geq (.t 13) (.t 16)), oQ 18 (.pick (.t 11) (.c (.bool true)) (.t 17))])
 (.cond (.t 18)
 (.seq
 (.reg false [4] [
 oQ 4 (.mov (.c (.sl .full [])))])
 .ret)
 .skip))
 (.seq
 (.reg true [3, 5] [
 oQ 19 (.fptr 1 (.t 2)), oQ 20 (.load false 1 (.t 19)), oQ 21 (.fptr 0 (.t 3)), oQ 22 (.load false 1 (.t 21)), oQ 23 (.idx 6 (.t 20) (.t 22)), oQ 24 (.fptr 1 (.t 23)), oQ 25 (.load false 1 (.t 24)), oQ 26 (.len false (.t 25)), oQ 27 (.fptr 1 (.t 2)), oQ 28 (.load false 1 (.t 27)), oQ 29 (.fptr 0 (.t 3)), oQ 30 (.load false 1 (.t 29)), oQ 31 (.idx 6 (.t 28) (.t 30)), oQ 32 (.fptr 2 (.t 31)), oQ 33 (.load false 1 (.t 32)), oQ 34 (.len false (.t 33)), oQ 35 (.bin .add (.t 26) (.t 34)), oQ 5 (.take 35)])
 (.seq
 (.seq
 (.reg false [3, 5, 44] [
 oQ 36 (.fptr 1 (.t 3)), oQ 37 (.load false 1 (.t 36)), oQ 38 (.bin .lss (.t 37) (.c (.int .i64 0))), oQ 39 (.mov (.t 38)), oG 40 39 false (.fptr 1 (.t 3)), oG 41 39 false (.load false 1 (.t 40)), oG 42 39 false (.mov (.t 5)), oG 43 39 false (.bin .geq (.t 41) (.t 42)), oQ 44 (.pick (.t 39) (.c (.bool true)) (.t 43))])
 (.cond (.t 44)
 (.seq
 (.reg false [4] [
 oQ 4 (.mov (.c (.sl .full [])))])
 .ret)
 .skip))
 (.seq
 (.reg false [3, 5, 6] [
 oQ 6 (.mov (.c (.sl .full [])))])
 (.seq
 (.seq
 (.reg false [3, 5, 6, 7] [
 oQ 7 (.mov (.c (.int .i64 0)))])
 (.block 0
 (.loop
 (.seq
 (.seq
 (.reg false [3, 5, 6, 7, 47] [
 oQ 45 (.mov (.t 7)), oQ 46 (.mov (.t 5)), oQ 47 (.bin .lss (.t 45) (.t 46))])
 (.cond (.t 47)
 .skip
 (.exit 0)))
 (.seq
 (.block 1
 (.seq
 (.reg false [3, 5, 6, 7, 53] [
 oQ 50 (.mov (.t 7)), oQ 51 (.fptr 1 (.t 3)), oQ 52 (.load false 1 (.t 51)), oQ 53 (.bin .neq (.t 50) (.t 52))])
 (.cond (.t 53)
 (.reg false [3, 5, 6, 7] [
 oQ 54 (.mov (.t 6)), oQ 55 (.mov (.t 7)), oQ 56 (.bslice 1 [(.t 55)]), oQ 57 (.append 1 (.t 54) (.t 56)), oQ 6 (.mov (.t 57))])
 .skip)))
 (.reg false [3, 5, 6, 7] [
 oQ 48 (.mov (.t 7)), oQ 49 (.bin .add (.t 48) (.c (.int .i64 1))), oQ 7 (.mov (.t 49))]))))))
 (.seq
 (.reg false [4] [
 oQ 58 (.mov (.t 6)), oQ 4 (.mov (.t 58))])
 .ret)))))))
theorem op_constraintref16_Partners (hn : vals.length ≤ 59) (h : SP Tryz.prog true vals bs rc_constraintref16_Partners [.slot 4] Q) : AM.Sem Tryz.prog 27 vals bs Q :=
  Sem.nrm (Sem.of (fn := Tryz.f27) (keeps := [(0, [2, 3]), (1, [2, 3, 18]), (2, [4]), (3, [3, 5]), (4, [3, 5, 44]), (5, [4]), (6, [3, 5, 6]), (7, [3, 5, 6, 7]), (8, [3, 5, 6, 7, 47]), (10, [3, 5, 6, 7, 53]), (11, [3, 5, 6, 7]), (9, [3, 5, 6, 7]), (12, [4])]) (solo := []) Tryz.func27 rfl (by kernel_rfl) (by kernel_rfl) (by kernel_rfl) hn (run_gp h))

def rc_depend_OfRule : RC :=
 (.seq
 (.reg false [1, 2] [
 oQ 1 (.box (.t 0)), oQ 2 (.box (.c (.agg [(.str ⟨⟨[]⟩⟩), (.int .i64 0), (.sl .full [])]))), oQ 3 (.mov (.c (.bool false)))])
 (.seq
 (.reg false [1, 2, 4] [
 oQ 16 (.load true 6 (.t 1)), oQ 17 (.call (.c (.fn (.func 46) [] [])) [(.t 16)]), oQ 4 (.mov (.t 17))])
 (.seq
 (.seq
 (.reg false [2, 4, 30] [
 oQ 18 (.mov (.t 4)), oQ 19 (.len false (.t 18)), oQ 20 (.bin .neq (.t 19) (.c (.int .i64 2))), oQ 21 (.mov (.t 20)), oG 22 21 false (.load true 6 (.t 1)), oG 23 21 false (.call (.c (.fn (.func 60) [] [])) [(.t 22)]), oQ 24 (.pick (.t 21) (.c (.bool true)) (.t 23)), oQ 25 (.mov (.t 24)), oG 26 25 false (.fptr 3 (.t 1)), oG 27 25 false (.load false 1 (.t 26)), oG 28 25 false (.len false (.t 27)), oG 29 25 false (.bin .gtr (.t 28) (.c (.int .i64 0))), oQ 30 (.pick (.t 25) (.c (.bool true)) (.t 29))])
 (.cond (.t 30)
 (.seq
 (.reg false [2, 3] [
 oQ 31 (.build [(.str ⟨⟨[]⟩⟩), (.int .i64 0), (.sl .full [])] []), oN (.store 3 (.t 2) (.t 31)), oQ 3 (.mov (.c (.bool false)))])
 .ret)
 .skip))
 (.seq
 (.both [2, 5, 6] [
 (0, oQ 32 (.mov (.t 4))), (0, oQ 33 (.idx 2 (.t 32) (.c (.int .i64 0)))), (0, oQ 34 (.more (.lde true 2) [(.t 33)])), (0, oQ 35 (.mov (.t 4))), (0, oQ 36 (.idx 2 (.t 35) (.c (.int .i64 1)))), (0, oQ 37 (.more (.lde true 2) [(.t 36)]))] [
 (0, oQ 5 (.box (.c (.agg [(.str ⟨⟨[]⟩⟩), (.sl .full [])])))), (0, oQ 6 (.box (.c (.agg [(.str ⟨⟨[]⟩⟩), (.sl .full [])])))), (0, oN (.store 2 (.t 5) (.t 34))), (0, oN (.store 2 (.t 6) (.t 37)))] [
 (0, oQ 6 (.box (.c (.agg [(.str ⟨⟨[]⟩⟩), (.sl .full [])])))), (0, oQ 5 (.box (.c (.agg [(.str ⟨⟨[]⟩⟩), (.sl .full [])])))), (0, oN (.store 2 (.t 5) (.t 34))), (0, oN (.store 2 (.t 6) (.t 37)))])
 (.seq
 (.seq
 (.reg false [2, 5, 6, 51] [
 oQ 38 (.fptr 0 (.t 5)), oQ 39 (.load false 1 (.t 38)), oQ 40 (.fptr 0 (.t 6)), oQ 41 (.load false 1 (.t 40)), oQ 42 (.bin .neq (.t 39) (.t 41)), oQ 43 (.mov (.t 42)), oG 44 43 false (.fptr 1 (.t 5)), oG 45 43 false (.load false 1 (.t 44)), oG 46 43 false (.len false (.t 45)), oG 47 43 false (.fptr 1 (.t 6)), oG 48 43 false (.load false 1 (.t 47)), oG 49 43 false (.len false (.t 48)), oG 50 43 false (.bin .neq (.t 46) (.t 49)), oQ 51 (.pick (.t 43) (.c (.bool true)) (.t 50))])
 (.cond (.t 51)
 (.seq
 (.reg false [2, 3] [
 oQ 52 (.build [(.str ⟨⟨[]⟩⟩), (.int .i64 0), (.sl .full [])] []), oN (.store 3 (.t 2) (.t 52)), oQ 3 (.mov (.c (.bool false)))])
 .ret)
 .skip))
 (.seq
 (.reg false [2, 5, 6, 8] [
 oQ 54 (.load true 2 (.t 5)), oQ 55 (.call (.c (.fn (.func 61) [] [])) [(.t 54)]), oQ 53 (.mov (.t 55)), oQ 56 (.ext 0 (.t 53)), oQ 57 (.ext 1 (.t 53)), oQ 7 (.mov (.t 56)), oQ 8 (.mov (.t 57))])
 (.seq
 (.reg false [2, 5, 8, 9, 10] [
 oQ 59 (.load true 2 (.t 6)), oQ 60 (.call (.c (.fn (.func 61) [] [])) [(.t 59)]), oQ 58 (.mov (.t 60)), oQ 61 (.ext 0 (.t 58)), oQ 62 (.ext 1 (.t 58)), oQ 9 (.mov (.t 61)), oQ 10 (.mov (.t 62))])
 (.seq
 (.seq
 (.reg false [2, 5, 9, 68] [
 oQ 63 (.mov (.t 8)), oQ 64 (.un .not (.t 63)), oQ 65 (.mov (.t 64)), oG 66 65 false (.mov (.t 10)), oG 67 65 false (.un .not (.t 66)), oQ 68 (.pick (.t 65) (.c (.bool true)) (.t 67))])
 (.cond (.t 68)
 (.seq
 (.reg false [2, 3] [
 oQ 69 (.build [(.str ⟨⟨[]⟩⟩), (.int .i64 0), (.sl .full [])] []), oN (.store 3 (.t 2) (.t 69)), oQ 3 (.mov (.c (.bool false)))])
 .ret)
 .skip))
 (.seq
 (.reg false [2, 5, 9, 11] [
 oQ 70 (.fptr 0 (.t 5)), oQ 71 (.load false 1 (.t 70)), oQ 72 (.fptr 1 (.t 5)), oQ 73 (.load false 1 (.t 72)), oQ 74 (.len false (.t 73)), oQ 75 (.build [(.str ⟨⟨[]⟩⟩), (.int .i64 0), (.sl .full [])] [(0, 1, (.t 71)), (1, 1, (.t 74))]), oQ 11 (.box (.c (.agg [(.str ⟨⟨[]⟩⟩), (.int .i64 0), (.sl .full [])]))), oN (.store 3 (.t 11) (.t 75))])
 (.seq
 (.seq
 (.reg false [2, 9, 11, 77, 78, 79] [
 oQ 76 (.fptr 1 (.t 5)), oQ 77 (.load false 1 (.t 76)), oQ 78 (.len false (.t 77)), oQ 79 (.mov (.c (.int .i64 0)))])
 (.block 0
 (.loop
 (.seq
 (.reg false [2, 9, 11, 77, 78, 79, 80] [
 oQ 80 (.bin .lss (.t 79) (.t 78))])
 (.seq
 (.cond (.t 80)
 .skip
 (.exit 0))
 (.seq
 (.block 1
 (.seq
 (.reg false [2, 9, 11, 12, 13, 77, 78, 79] [
 oQ 81 (.mov (.t 79)), oQ 82 (.idx 4 (.t 77) (.t 79)), oQ 83 (.load true 4 (.t 82)), oQ 13 (.box (.c (.agg [(.int .i64 0), (.int .i64 0), (.str ⟨⟨[]⟩⟩), (.sl .full [])]))), oQ 12 (.mov (.t 81)), oN (.store 4 (.t 13) (.t 83))])
 (.seq
 (.reg false [2, 9, 11, 12, 14, 15, 77, 78, 79] [
 oQ 85 (.mov (.t 9)), oQ 86 (.fptr 1 (.t 13)), oQ 87 (.load false 1 (.t 86)), oQ 88 (.eff (.getM true (.int .i64 0)) [(.t 85), (.t 87)]), oQ 84 (.mov (.t 88)), oQ 89 (.ext 0 (.t 84)), oQ 90 (.ext 1 (.t 84)), oQ 14 (.mov (.t 89)), oQ 15 (.mov (.t 90))])
 (.block 2
 (.seq
 (.reg false [2, 9, 11, 12, 15, 77, 78, 79, 91] [
 oQ 92 (.mov (.t 15)), oQ 93 (.mov (.t 92)), oG 94 93 true (.mov (.t 14)), oG 95 93 true (.mov (.t 12)), oG 96 93 true (.bin .neq (.t 94) (.t 95)), oQ 97 (.pick (.t 93) (.t 96) (.c (.bool false))), oQ 91 (.mov (.t 97))])
 (.cond (.t 91)
 (.seq
 (.reg false [2, 3] [
 oQ 98 (.build [(.str ⟨⟨[]⟩⟩), (.int .i64 0), (.sl .full [])] []), oN (.store 3 (.t 2) (.t 98)), oQ 3 (.mov (.c (.bool false)))])
 .ret)
 (.seq
 (.reg false [2, 9, 11, 12, 77, 78, 79, 99] [
 oQ 100 (.mov (.t 15)), oQ 99 (.mov (.t 100))])
 (.cond (.t 99)
 (.reg false [2, 9, 11, 77, 78, 79] [
 oQ 101 (.fptr 2 (.t 11)), oQ 102 (.load false 1 (.t 101)), oQ 103 (.mov (.t 12)), oQ 104 (.bslice 1 [(.t 103)]), oQ 105 (.append 1 (.t 102) (.t 104)), oQ 106 (.fptr 2 (.t 11)), oN (.store 1 (.t 106) (.t 105))])
 .skip))))))))
 (.reg false [2, 9, 11, 77, 78, 79] [
 oQ 107 (.bin .add (.t 79) (.c (.int .i64 1))), oQ 79 (.mov (.t 107))])))))))
 (.seq
 (.reg false [2, 3] [
 oQ 108 (.load true 3 (.t 11)), oN (.store 3 (.t 2) (.t 108)), oQ 3 (.mov (.c (.bool true)))])
 .ret)))))))))))
theorem op_depend_OfRule (hn : vals.length ≤ 109) (h : SP Tryz.prog true vals bs rc_depend_OfRule [.cell 2 true 3, .slot 3] Q) : AM.Sem Tryz.prog 38 vals bs Q :=
  Sem.nrm (Sem.of (fn := Tryz.f38) (keeps := [(0, [1, 2]), (1, [1, 2, 4]), (2, [2, 4, 30]), (3, [2, 3]), (4, [2, 5, 6]), (5, [2, 5, 6, 51]), (6, [2, 3]), (7, [2, 5, 6, 8]), (8, [2, 5, 8, 9, 10]), (9, [2, 5, 9, 68]), (10, [2, 3]), (11, [2, 5, 9, 11]), (12, [2, 9, 11, 77, 78, 79]), (13, [2, 9, 11, 77, 78, 79, 80]), (14, [2, 9, 11, 12, 13, 77, 78, 79]), (15, [2, 9, 11, 12, 14, 15, 77, 78, 79]), (16, [2, 9, 11, 12, 15, 77, 78, 79, 91]), (18, [2, 9, 11, 12, 77, 78, 79, 99]), (19, [2, 9, 11, 77, 78, 79]), (17, [2, 3]), (20, [2, 9, 11, 77, 78, 79]), (21, [2, 3]), (1000000, [34, 37]), (4000004, [6, 7, 0, 1, 2, 3, 4, 5]), (5000004, [7, 8, 9]), (6000004, [6, 8, 9])]) (solo := []) Tryz.func38 rfl (by kernel_rfl) (by kernel_rfl) (by kernel_rfl) hn (run_gp h))

def rc_depend_Unique : RC :=
 (.seq
 (.reg false [0, 1, 5] [
 oQ 5 (.box (.t 2)), oQ 6 (.mov (.c (.bool false)))])
 (.seq
 (.seq
 (.reg false [1, 5, 10, 11, 12] [
 oQ 10 (.mov (.t 0)), oQ 11 (.len false (.t 10)), oQ 12 (.mov (.c (.int .i64 0)))])
 (.block 0
 (.loop
 (.seq
 (.reg false [1, 5, 10, 11, 12, 13] [
 oQ 13 (.bin .lss (.t 12) (.t 11))])
 (.seq
 (.cond (.t 13)
 .skip
 (.exit 0))
 (.seq
 (.block 1
 (.seq
 (.reg false [1, 5, 8, 10, 11, 12] [
 oQ 14 (.idx 3 (.t 10) (.t 12)), oQ 15 (.load true 3 (.t 14)), oQ 8 (.box (.c (.agg [(.str ⟨⟨[]⟩⟩), (.int .i64 0), (.sl .full [])]))), oN (.store 3 (.t 8) (.t 15))])
 (.seq
 (.reg false [1, 5, 8, 9, 10, 11, 12] [
 oQ 16 (.mkfn (.func 68) [] [(.t 5)]), oQ 9 (.mov (.t 16))])
 (.seq
 (.reg false [1, 5, 10, 11, 12, 27] [
 oQ 17 (.fptr 0 (.t 8)), oQ 18 (.load false 1 (.t 17)), oQ 19 (.mov (.t 1)), oQ 20 (.bin .eql (.t 18) (.t 19)), oQ 21 (.mov (.t 20)), oG 22 21 true (.fptr 2 (.t 8)), oG 23 21 true (.load false 1 (.t 22)), oG 24 21 true (.mov (.t 9)), oG 25 21 true (.call (.c (.fn (.func 69) [] [])) [(.t 23), (.t 24)]), oG 26 21 true (.un .not (.t 25)), oQ 27 (.pick (.t 21) (.t 26) (.c (.bool false)))])
 (.cond (.t 27)
 (.seq
 (.reg false [6] [
 oQ 6 (.mov (.c (.bool true)))])
 .ret)
 .skip)))))
 (.reg false [1, 5, 10, 11, 12] [
 oQ 28 (.bin .add (.t 12) (.c (.int .i64 1))), oQ 12 (.mov (.t 28))])))))))
 (.seq
 (.reg false [6] [
 oQ 6 (.mov (.c (.bool false)))])
 .ret)))
theorem op_depend_Unique (hn : vals.length ≤ 29) (h : SP Tryz.prog true vals bs rc_depend_Unique [.slot 6] Q) : AM.Sem Tryz.prog 49 vals bs Q :=
  Sem.nrm (Sem.of (fn := Tryz.f49) (keeps := [(0, [0, 1, 5]), (1, [1, 5, 10, 11, 12]), (2, [1, 5, 10, 11, 12, 13]), (3, [1, 5, 8, 10, 11, 12]), (4, [1, 5, 8, 9, 10, 11, 12]), (5, [1, 5, 10, 11, 12, 27]), (6, [6]), (7, [1, 5, 10, 11, 12]), (8, [6])]) (solo := []) Tryz.func49 rfl (by kernel_rfl) (by kernel_rfl) (by kernel_rfl) hn (run_gp h))

def rc_depend_equal : RC :=
 (.seq
 (.reg false [2, 3] [
 oQ 2 (.box (.t 0)), oQ 3 (.box (.t 1)), oQ 4 (.mov (.c (.bool false)))])
 (.seq
 (.reg false [4] [
 oQ 5 (.fptr 0 (.t 2)), oQ 6 (.load false 1 (.t 5)), oQ 7 (.fptr 0 (.t 3)), oQ 8 (.load false 1 (.t 7)), oQ 9 (.bin .eql (.t 6) (.t 8)), oQ 10 (.mov (.t 9)), oG 11 10 true (.fptr 1 (.t 2)), oG 12 10 true (.load false 1 (.t 11)), oG 13 10 true (.fptr 1 (.t 3)), oG 14 10 true (.load false 1 (.t 13)), oG 15 10 true (.bin .eql (.t 12) (.t 14)), oQ 16 (.pick (.t 10) (.t 15) (.c (.bool false))), oQ 17 (.mov (.t 16)), oG 18 17 true (.fptr 2 (.t 2)), oG 19 17 true (.load false 1 (.t 18)), oG 20 17 true (.fptr 2 (.t 3)), oG 21 17 true (.load false 1 (.t 20)), oG 22 17 true (.call (.c (.fn (.func 36) [] [])) [(.t 19), (.t 21)]), oQ 23 (.pick (.t 17) (.t 22) (.c (.bool false))), oQ 4 (.mov (.t 23))])
 .ret))
theorem op_depend_equal (hn : vals.length ≤ 24) (h : SP Tryz.prog true vals bs rc_depend_equal [.slot 4] Q) : AM.Sem Tryz.prog 41 vals bs Q :=
  Sem.nrm (Sem.of (fn := Tryz.f41) (keeps := [(0, [2, 3]), (1, [4])]) (solo := []) Tryz.func41 rfl (by kernel_rfl) (by kernel_rfl) (by kernel_rfl) hn (run_gp h))

def rc_depend_Keys : RC :=
 (.seq
 (.reg false [1] [
 oQ 1 (.box (.t 0)), oQ 2 (.mov (.c (.sl .full [])))])
 (.seq
 (.reg false [1, 3] [
 oQ 3 (.mov (.c (.sl .full [])))])
 (.seq
 (.seq
 (.reg false [3, 9, 10, 11] [
 oQ 8 (.fptr 1 (.t 1)), oQ 9 (.load false 1 (.t 8)), oQ 10 (.len false (.t 9)), oQ 11 (.mov (.c (.int .i64 0)))])
 (.block 0
 (.loop
 (.seq
 (.reg false [3, 9, 10, 11, 12] [
 oQ 12 (.bin .lss (.t 11) (.t 10))])
 (.seq
 (.cond (.t 12)
 .skip
 (.exit 0))
 (.seq
 (.block 1
 (.seq
 (.reg false [3, 5, 9, 10, 11] [
 oQ 13 (.idx 6 (.t 9) (.t 11)), oQ 14 (.load true 6 (.t 13)), oQ 5 (.box (.c (.agg [(.str ⟨⟨[]⟩⟩), (.sl .full []), (.sl .full []), (.sl .full []), (.sl .full []), (.int .i64 0)]))), oN (.store 6 (.t 5) (.t 14))])
 (.seq
 (.reg false [3, 6, 7, 9, 10, 11] [
 oQ 16 (.load true 6 (.t 5)), oQ 17 (.call (.c (.fn (.func 38) [] [])) [(.t 16)]), oQ 15 (.mov (.t 17)), oQ 18 (.ext 0 (.t 15)), oQ 19 (.ext 1 (.t 15)), oQ 6 (.box (.c (.agg [(.str ⟨⟨[]⟩⟩), (.int .i64 0), (.sl .full [])]))), oN (.store 3 (.t 6) (.t 18)), oQ 7 (.mov (.t 19))])
 (.seq
 (.reg false [3, 6, 9, 10, 11, 26] [
 oQ 20 (.mov (.t 7)), oQ 21 (.mov (.t 20)), oG 22 21 true (.more .see [(.t 3)]), oG 23 21 true (.mkfn (.func 40) [] [(.t 6)]), oG 24 21 true (.call (.c (.fn (.func 39) [] [])) [(.t 22), (.t 23)]), oG 25 21 true (.un .not (.t 24)), oQ 26 (.pick (.t 21) (.t 25) (.c (.bool false)))])
 (.cond (.t 26)
 (.reg false [3, 9, 10, 11] [
 oQ 27 (.mov (.t 3)), oQ 28 (.load true 3 (.t 6)), oQ 29 (.bslice 3 [(.t 28)]), oQ 30 (.append 3 (.t 27) (.t 29)), oQ 3 (.mov (.t 30))])
 .skip)))))
 (.reg false [3, 9, 10, 11] [
 oQ 31 (.bin .add (.t 11) (.c (.int .i64 1))), oQ 11 (.mov (.t 31))])))))))
 (.seq
 (.reg false [2] [
 oQ 32 (.mov (.t 3)), oQ 2 (.mov (.t 32))])
 .ret))))
theorem op_depend_Keys (hn : vals.length ≤ 33) (h : SP Tryz.prog true vals bs rc_depend_Keys [.slot 2] Q) : AM.Sem Tryz.prog 16 vals bs Q :=
  Sem.nrm (Sem.of (fn := Tryz.f16) (keeps := [(0, [1]), (1, [1, 3]), (2, [3, 9, 10, 11]), (3, [3, 9, 10, 11, 12]), (4, [3, 5, 9, 10, 11]), (5, [3, 6, 7, 9, 10, 11]), (6, [3, 6, 9, 10, 11, 26]), (7, [3, 9, 10, 11]), (8, [3, 9, 10, 11]), (9, [2]), (1000000, [22])]) (solo := []) Tryz.func16 rfl (by kernel_rfl) (by kernel_rfl) (by kernel_rfl) hn (run_gp h))

def rc_depend_variables : RC :=
 (.seq
 (.reg false [1] [
 oQ 1 (.box (.t 0)), oQ 2 (.mov (.c .nmp)), oQ 3 (.mov (.c (.bool false)))])
 (.seq
 (.reg false [1, 4] [
 oQ 9 (.eff .mkM []), oQ 4 (.mov (.t 9))])
 (.seq
 (.seq
 (.reg false [4, 11, 12, 13] [
 oQ 10 (.fptr 1 (.t 1)), oQ 11 (.load false 1 (.t 10)), oQ 12 (.len false (.t 11)), oQ 13 (.mov (.c (.int .i64 0)))])
 (.block 0
 (.loop
 (.seq
 (.reg false [4, 11, 12, 13, 14] [
 oQ 14 (.bin .lss (.t 13) (.t 12))])
 (.seq
 (.cond (.t 14)
 .skip
 (.exit 0))
 (.seq
 (.block 1
 (.seq
 (.reg false [4, 5, 6, 11, 12, 13] [
 oQ 15 (.mov (.t 13)), oQ 16 (.idx 4 (.t 11) (.t 13)), oQ 17 (.load true 4 (.t 16)), oQ 6 (.box (.c (.agg [(.int .i64 0), (.int .i64 0), (.str ⟨⟨[]⟩⟩), (.sl .full [])]))), oQ 5 (.mov (.t 15)), oN (.store 4 (.t 6) (.t 17))])
 (.seq
 (.seq
 (.reg false [4, 5, 6, 11, 12, 13, 20] [
 oQ 18 (.fptr 0 (.t 6)), oQ 19 (.load false 1 (.t 18)), oQ 20 (.bin .neq (.t 19) (.c (.int .i64 1)))])
 (.cond (.t 20)
 (.seq
 (.reg false [2, 3] [
 oQ 2 (.mov (.c .nmp)), oQ 3 (.mov (.c (.bool false)))])
 .ret)
 .skip))
 (.seq
 (.seq
 (.reg false [4, 5, 6, 8, 11, 12, 13] [
 oQ 22 (.mov (.t 4)), oQ 23 (.fptr 1 (.t 6)), oQ 24 (.load false 1 (.t 23)), oQ 25 (.eff (.getM true (.int .i64 0)) [(.t 22), (.t 24)]), oQ 21 (.mov (.t 25)), oQ 26 (.ext 0 (.t 21)), oQ 27 (.ext 1 (.t 21)), oQ 7 (.mov (.t 26)), oQ 8 (.mov (.t 27))])
 (.seq
 (.reg false [4, 5, 6, 11, 12, 13, 28] [
 oQ 28 (.mov (.t 8))])
 (.cond (.t 28)
 (.seq
 (.reg false [2, 3] [
 oQ 2 (.mov (.c .nmp)), oQ 3 (.mov (.c (.bool false)))])
 .ret)
 .skip)))
 (.reg false [4, 11, 12, 13] [
 oQ 29 (.mov (.t 4)), oQ 30 (.fptr 1 (.t 6)), oQ 31 (.load false 1 (.t 30)), oQ 32 (.mov (.t 5)), oN (.eff .setM [(.t 29), (.t 31), (.t 32)])])))))
 (.reg false [4, 11, 12, 13] [
 oQ 33 (.bin .add (.t 13) (.c (.int .i64 1))), oQ 13 (.mov (.t 33))])))))))
 (.seq
 (.reg false [2, 3] [
 oQ 34 (.mov (.t 4)), oQ 2 (.mov (.t 34)), oQ 3 (.mov (.c (.bool true)))])
 .ret))))
def rc_depend_Keys_1 : RC :=
 (.seq
 (.reg false [1, 2] [
 oQ 2 (.box (.t 0)), oQ 3 (.mov (.c (.bool false)))])
 (.seq
 (.reg false [3] [
 oQ 4 (.load true 3 (.t 2)), oQ 5 (.load true 3 (.t 1)), oQ 6 (.call (.c (.fn (.func 41) [] [])) [(.t 4), (.t 5)]), oQ 3 (.mov (.t 6))])
 .ret))
def rc_depend_Unique_1 : RC :=
 (.seq
 (.reg false [0, 1] [
 oQ 3 (.mov (.c (.bool false)))])
 (.seq
 (.reg false [3] [
 oQ 4 (.load false 1 (.t 1)), oQ 5 (.mov (.t 0)), oQ 6 (.call (.c (.fn (.func 23) [] [])) [(.t 4), (.t 5)]), oQ 7 (.un .not (.t 6)), oQ 3 (.mov (.t 7))])
 .ret))
def rc_slices_Contains_api_Occ_api_Occ : RC :=
 (.seq
 (.reg false [0, 3] [
 oQ 3 (.box (.t 1)), oQ 4 (.mov (.c (.bool false)))])
 (.seq
 (.reg false [4] [
 oQ 5 (.mov (.t 0)), oQ 6 (.load true 3 (.t 3)), oQ 7 (.call (.c (.fn (.func 45) [] [])) [(.t 5), (.t 6)]), oQ 8 (.bin .geq (.t 7) (.c (.int .i64 0))), oQ 4 (.mov (.t 8))])
 .ret))
theorem op_slices_Contains_api_Occ_api_Occ (hn : vals.length ≤ 9) (h : SP Tryz.prog true vals bs rc_slices_Contains_api_Occ_api_Occ [.slot 4] Q) : AM.Sem Tryz.prog 21 vals bs Q :=
  Sem.nrm (Sem.of (fn := Tryz.f21) (keeps := [(0, [0, 3]), (1, [4])]) (solo := []) Tryz.func21 rfl (by kernel_rfl) (by kernel_rfl) (by kernel_rfl) hn (run_gp h))

def rc_slices_Index_api_Occ_api_Occ : RC :=
 (.seq
 (.reg false [0, 3] [
 oQ 3 (.box (.t 1)), oQ 4 (.mov (.c (.int .i64 0)))])
 (.seq
 (.seq
 (.reg false [0, 3, 7, 8] [
 oQ 6 (.mov (.t 0)), oQ 7 (.len false (.t 6)), oQ 8 (.mov (.c (.int .i64 0)))])
 (.block 0
 (.loop
 (.seq
 (.reg false [0, 3, 7, 8, 9] [
 oQ 9 (.bin .lss (.t 8) (.t 7))])
 (.seq
 (.cond (.t 9)
 .skip
 (.exit 0))
 (.seq
 (.block 1
 (.seq
 (.reg false [0, 3, 5, 7, 8] [
 oQ 10 (.mov (.t 8)), oQ 5 (.mov (.t 10))])
 (.seq
 (.reg true [0, 3, 5, 7, 8, 16] [
 oQ 11 (.load true 3 (.t 3)), oQ 12 (.take 0), oQ 13 (.take 5), oQ 14 (.idx 3 (.t 12) (.t 13)), oQ 15 (.load true 3 (.t 14)), oQ 16 (.more (.eqA false [.i, .i, .b]) [(.t 11), (.t 15)])])
 (.cond (.t 16)
 (.seq
 (.reg false [4] [
 oQ 17 (.mov (.t 5)), oQ 4 (.mov (.t 17))])
 .ret)
 .skip))))
 (.reg false [0, 3, 7, 8] [
 oQ 18 (.bin .add (.t 8) (.c (.int .i64 1))), oQ 8 (.mov (.t 18))])))))))
 (.seq
 (.reg false [4] [
 oQ 4 (.mov (.c (.int .i64 (-1))))])
 .ret)))
theorem op_slices_Index_api_Occ_api_Occ (hn : vals.length ≤ 19) (h : SP Tryz.prog true vals bs rc_slices_Index_api_Occ_api_Occ [.slot 4] Q) : AM.Sem Tryz.prog 45 vals bs Q :=
  Sem.nrm (Sem.of (fn := Tryz.f45) (keeps := [(0, [0, 3]), (1, [0, 3, 7, 8]), (2, [0, 3, 7, 8, 9]), (3, [0, 3, 5, 7, 8]), (4, [0, 3, 5, 7, 8, 16]), (5, [4]), (6, [0, 3, 7, 8]), (7, [4])]) (solo := []) Tryz.func45 rfl (by kernel_rfl) (by kernel_rfl) (by kernel_rfl) hn (run_gp h))

def rc_slices_ContainsFunc_api_Key_api_Key : RC :=
 (.seq
 (.reg false [0, 1] [
 oQ 4 (.mov (.c (.bool false)))])
 (.seq
 (.reg false [4] [
 oQ 5 (.mov (.t 0)), oQ 6 (.mov (.t 1)), oQ 7 (.call (.c (.fn (.func 62) [] [])) [(.t 5), (.t 6)]), oQ 8 (.bin .geq (.t 7) (.c (.int .i64 0))), oQ 4 (.mov (.t 8))])
 .ret))
def rc_slices_IndexFunc_api_Key_api_Key : RC :=
 (.seq
 (.reg false [0, 1] [
 oQ 4 (.mov (.c (.int .i64 0)))])
 (.seq
 (.seq
 (.reg false [0, 1, 7, 8] [
 oQ 6 (.mov (.t 0)), oQ 7 (.len false (.t 6)), oQ 8 (.mov (.c (.int .i64 0)))])
 (.block 0
 (.loop
 (.seq
 (.reg false [0, 1, 7, 8, 9] [
 oQ 9 (.bin .lss (.t 8) (.t 7))])
 (.seq
 (.cond (.t 9)
 .skip
 (.exit 0))
 (.seq
 (.block 1
 (.seq
 (.reg false [0, 1, 5, 7, 8] [
 oQ 10 (.mov (.t 8)), oQ 5 (.mov (.t 10))])
 (.seq
 (.reg false [0, 1, 5, 7, 8, 16] [
 oQ 11 (.mov (.t 1)), oQ 12 (.mov (.t 0)), oQ 13 (.mov (.t 5)), oQ 14 (.idx 3 (.t 12) (.t 13)), oQ 15 (.load true 3 (.t 14)), oQ 16 (.callv (.t 11) [(.t 15)])])
 (.cond (.t 16)
 (.seq
 (.reg false [4] [
 oQ 17 (.mov (.t 5)), oQ 4 (.mov (.t 17))])
 .ret)
 .skip))))
 (.reg false [0, 1, 7, 8] [
 oQ 18 (.bin .add (.t 8) (.c (.int .i64 1))), oQ 8 (.mov (.t 18))])))))))
 (.seq
 (.reg false [4] [
 oQ 4 (.mov (.c (.int .i64 (-1))))])
 .ret)))
def rc_slices_Values_int_int : RC :=
 (.seq
 (.reg false [1] [
 oQ 1 (.box (.t 0)), oQ 2 (.mov (.c .nfn))])
 (.seq
 (.reg false [2] [
 oQ 3 (.mkfn (.func 59) [] [(.t 1)]), oQ 2 (.mov (.t 3))])
 .ret))
theorem op_slices_Values_int_int (hn : vals.length ≤ 4) (h : SP Tryz.prog true vals bs rc_slices_Values_int_int [.slot 2] Q) : AM.Sem Tryz.prog 34 vals bs Q :=
  Sem.nrm (Sem.of (fn := Tryz.f34) (keeps := [(0, [1]), (1, [2])]) (solo := []) Tryz.func34 rfl (by kernel_rfl) (by kernel_rfl) (by kernel_rfl) hn (run_gp h))

def rc_slices_EqualFunc_int_int_int_int : RC :=
 (.seq
 (.reg false [0, 1, 2] [
 oQ 6 (.mov (.c (.bool false)))])
 (.seq
 (.seq
 (.reg false [0, 1, 2, 14] [
 oQ 10 (.mov (.t 0)), oQ 11 (.len false (.t 10)), oQ 12 (.mov (.t 1)), oQ 13 (.len false (.t 12)), oQ 14 (.bin .neq (.t 11) (.t 13))])
 (.cond (.t 14)
 (.seq
 (.reg false [6] [
 oQ 6 (.mov (.c (.bool false)))])
 .ret)
 .skip))
 (.seq
 (.seq
 (.reg false [1, 2, 15, 16, 17] [
 oQ 15 (.mov (.t 0)), oQ 16 (.len false (.t 15)), oQ 17 (.mov (.c (.int .i64 0)))])
 (.block 0
 (.loop
 (.seq
 (.reg false [1, 2, 15, 16, 17, 18] [
 oQ 18 (.bin .lss (.t 17) (.t 16))])
 (.seq
 (.cond (.t 18)
 .skip
 (.exit 0))
 (.seq
 (.block 1
 (.seq
 (.reg false [1, 2, 7, 8, 15, 16, 17] [
 oQ 19 (.mov (.t 17)), oQ 20 (.idx 1 (.t 15) (.t 17)), oQ 21 (.load false 1 (.t 20)), oQ 7 (.mov (.t 19)), oQ 8 (.mov (.t 21))])
 (.seq
 (.reg false [1, 2, 8, 9, 15, 16, 17] [
 oQ 22 (.mov (.t 1)), oQ 23 (.mov (.t 7)), oQ 24 (.idx 1 (.t 22) (.t 23)), oQ 25 (.load false 1 (.t 24)), oQ 9 (.mov (.t 25))])
 (.seq
 (.reg false [1, 2, 15, 16, 17, 30] [
 oQ 26 (.mov (.t 2)), oQ 27 (.mov (.t 8)), oQ 28 (.mov (.t 9)), oQ 29 (.callv (.t 26) [(.t 27), (.t 28)]), oQ 30 (.un .not (.t 29))])
 (.cond (.t 30)
 (.seq
 (.reg false [6] [
 oQ 6 (.mov (.c (.bool false)))])
 .ret)
 .skip)))))
 (.reg false [1, 2, 15, 16, 17] [
 oQ 31 (.bin .add (.t 17) (.c (.int .i64 1))), oQ 17 (.mov (.t 31))])))))))
 (.seq
 (.reg false [6] [
 oQ 6 (.mov (.c (.bool true)))])
 .ret))))
theorem op_slices_EqualFunc_int_int_int_int (hn : vals.length ≤ 32) (h : SP Tryz.prog true vals bs rc_slices_EqualFunc_int_int_int_int [.slot 6] Q) : AM.Sem Tryz.prog 35 vals bs Q :=
  Sem.nrm (Sem.of (fn := Tryz.f35) (keeps := [(0, [0, 1, 2]), (1, [0, 1, 2, 14]), (2, [6]), (3, [1, 2, 15, 16, 17]), (4, [1, 2, 15, 16, 17, 18]), (5, [1, 2, 7, 8, 15, 16, 17]), (6, [1, 2, 8, 9, 15, 16, 17]), (7, [1, 2, 15, 16, 17, 30]), (8, [6]), (9, [1, 2, 15, 16, 17]), (10, [6])]) (solo := []) Tryz.func35 rfl (by kernel_rfl) (by kernel_rfl) (by kernel_rfl) hn (run_gp h))

def rc_guard_Place : RC :=
 (.seq
 (.reg false [1, 2] [
 oQ 2 (.box (.t 0)), oQ 4 (.mov (.c (.sl .full [])))])
 (.seq
 (.reg false [1, 2, 5, 6] [
 oQ 13 (.load true 6 (.t 2)), oQ 14 (.call (.c (.fn (.func 46) [] [])) [(.t 13)]), oQ 15 (.eff .mkM []), oQ 5 (.mov (.t 14)), oQ 6 (.mov (.t 15))])
 (.seq
 (.reg false [1, 2, 5, 6, 7] [
 oQ 16 (.fptr 3 (.t 2)), oQ 17 (.load false 1 (.t 16)), oQ 18 (.len false (.t 17)), oQ 19 (.eff (.mkB 1 (.bool false)) [(.t 18), (.t 18)]), oQ 7 (.mov (.t 19))])
 (.seq
 (.reg false [1, 2, 5, 6, 7, 8] [
 oQ 20 (.mov (.t 1)), oQ 21 (.len false (.t 20)), oQ 22 (.bin .add (.t 21) (.c (.int .i64 1))), oQ 23 (.mk 1 (.sl .full []) (.c (.int .i64 0)) (.t 22)), oQ 8 (.mov (.t 23))])
 (.seq
 (.reg false [1, 2, 5, 6, 7, 8, 9] [
 oQ 9 (.mov (.c (.int .i64 0)))])
 (.block 0
 (.loop
 (.seq
 (.block 1
 (.seq
 (.reg false [1, 2, 5, 6, 7, 8, 9, 10] [
 oQ 10 (.mov (.c (.sl .full [])))])
 (.seq
 (.seq
 (.reg false [1, 2, 5, 6, 7, 8, 9, 10, 27, 28, 29] [
 oQ 26 (.fptr 3 (.t 2)), oQ 27 (.load false 1 (.t 26)), oQ 28 (.len false (.t 27)), oQ 29 (.mov (.c (.int .i64 0)))])
 (.block 2
 (.loop
 (.seq
 (.reg false [1, 2, 5, 6, 7, 8, 9, 10, 27, 28, 29, 30] [
 oQ 30 (.bin .lss (.t 29) (.t 28))])
 (.seq
 (.cond (.t 30)
 .skip
 (.exit 2))
 (.seq
 (.block 3
 (.seq
 (.reg false [1, 2, 5, 6, 7, 8, 9, 10, 11, 12, 27, 28, 29] [
 oQ 31 (.mov (.t 29)), oQ 32 (.idx 3 (.t 27) (.t 29)), oQ 33 (.load true 3 (.t 32)), oQ 12 (.box (.c (.agg [(.int .i64 0), (.str ⟨⟨[]⟩⟩), (.sl .full [])]))), oQ 11 (.mov (.t 31)), oN (.store 3 (.t 12) (.t 33))])
 (.seq
 (.reg false [1, 2, 5, 6, 7, 8, 9, 10, 11, 27, 28, 29, 43] [
 oQ 34 (.mov (.t 7)), oQ 35 (.mov (.t 11)), oQ 36 (.idx 1 (.t 34) (.t 35)), oQ 37 (.load false 1 (.t 36)), oQ 38 (.un .not (.t 37)), oQ 39 (.mov (.t 38)), oG 40 39 true (.mov (.t 6)), oG 41 39 true (.load true 3 (.t 12)), oG 42 39 true (.call (.c (.fn (.func 70) [] [])) [(.t 40), (.t 41)]), oQ 43 (.pick (.t 39) (.t 42) (.c (.bool false)))])
 (.cond (.t 43)
 (.seq
 (.reg false [1, 2, 5, 6, 7, 8, 9, 10, 11, 27, 28, 29] [
 oQ 44 (.mov (.t 7)), oQ 45 (.mov (.t 11)), oQ 46 (.idx 1 (.t 44) (.t 45)), oN (.store 1 (.t 46) (.c (.bool true)))])
 (.reg false [1, 2, 5, 6, 7, 8, 9, 10, 27, 28, 29] [
 oQ 47 (.mov (.t 10)), oQ 48 (.mov (.t 11)), oQ 49 (.bslice 1 [(.t 48)]), oQ 50 (.append 1 (.t 47) (.t 49)), oQ 10 (.mov (.t 50))]))
 .skip))))
 (.reg false [1, 2, 5, 6, 7, 8, 9, 10, 27, 28, 29] [
 oQ 51 (.bin .add (.t 29) (.c (.int .i64 1))), oQ 29 (.mov (.t 51))])))))))
 (.seq
 (.reg false [1, 2, 5, 6, 7, 8, 9] [
 oQ 52 (.mov (.t 8)), oQ 53 (.mov (.t 10)), oQ 54 (.bslice 1 [(.t 53)]), oQ 55 (.append 1 (.t 52) (.t 54)), oQ 8 (.mov (.t 55))])
 (.seq
 (.seq
 (.reg false [1, 2, 5, 6, 7, 8, 9, 59] [
 oQ 56 (.mov (.t 9)), oQ 57 (.mov (.t 1)), oQ 58 (.len false (.t 57)), oQ 59 (.bin .eql (.t 56) (.t 58))])
 (.cond (.t 59)
 (.seq
 (.reg false [4] [
 oQ 60 (.mov (.t 8)), oQ 4 (.mov (.t 60))])
 .ret)
 .skip))
 (.reg false [1, 2, 5, 6, 7, 8, 9] [
 oQ 61 (.mov (.t 6)), oQ 62 (.mov (.t 5)), oQ 63 (.mov (.t 1)), oQ 64 (.mov (.t 9)), oQ 65 (.idx 1 (.t 63) (.t 64)), oQ 66 (.load false 1 (.t 65)), oQ 67 (.call (.c (.fn (.func 71) [] [])) [(.t 61), (.t 62), (.t 66)])]))))))
 (.reg false [1, 2, 5, 6, 7, 8, 9] [
 oQ 24 (.mov (.t 9)), oQ 25 (.bin .add (.t 24) (.c (.int .i64 1))), oQ 9 (.mov (.t 25))])))))))))
theorem op_guard_Place (hn : vals.length ≤ 68) (h : SP Tryz.prog true vals bs rc_guard_Place [.slot 4] Q) : AM.Sem Tryz.prog 51 vals bs Q :=
  Sem.nrm (Sem.of (fn := Tryz.f51) (keeps := [(0, [1, 2]), (1, [1, 2, 5, 6]), (2, [1, 2, 5, 6, 7]), (3, [1, 2, 5, 6, 7, 8]), (4, [1, 2, 5, 6, 7, 8, 9]), (6, [1, 2, 5, 6, 7, 8, 9, 10]), (7, [1, 2, 5, 6, 7, 8, 9, 10, 27, 28, 29]), (8, [1, 2, 5, 6, 7, 8, 9, 10, 27, 28, 29, 30]), (9, [1, 2, 5, 6, 7, 8, 9, 10, 11, 12, 27, 28, 29]), (10, [1, 2, 5, 6, 7, 8, 9, 10, 11, 27, 28, 29, 43]), (11, [1, 2, 5, 6, 7, 8, 9, 10, 11, 27, 28, 29]), (12, [1, 2, 5, 6, 7, 8, 9, 10, 27, 28, 29]), (13, [1, 2, 5, 6, 7, 8, 9, 10, 27, 28, 29]), (14, [1, 2, 5, 6, 7, 8, 9]), (15, [1, 2, 5, 6, 7, 8, 9, 59]), (16, [4]), (17, [1, 2, 5, 6, 7, 8, 9]), (5, [1, 2, 5, 6, 7, 8, 9]), (1000000, [19])]) (solo := []) Tryz.func51 rfl (by kernel_rfl) (by kernel_rfl) (by kernel_rfl) hn (run_gp h))

def rc_guard_known_covers : RC :=
 (.seq
 (.reg false [0, 3] [
 oQ 3 (.box (.t 1)), oQ 4 (.mov (.c (.bool false)))])
 (.seq
 (.seq
 (.reg false [0, 8, 9, 10] [
 oQ 7 (.load true 3 (.t 3)), oQ 8 (.call (.c (.fn (.func 84) [] [])) [(.t 7)]), oQ 9 (.len false (.t 8)), oQ 10 (.mov (.c (.int .i64 0)))])
 (.block 0
 (.loop
 (.seq
 (.reg false [0, 8, 9, 10, 11] [
 oQ 11 (.bin .lss (.t 10) (.t 9))])
 (.seq
 (.cond (.t 11)
 .skip
 (.exit 0))
 (.seq
 (.block 1
 (.seq
 (.reg false [0, 6, 8, 9, 10] [
 oQ 12 (.idx 1 (.t 8) (.t 10)), oQ 13 (.load false 1 (.t 12)), oQ 6 (.mov (.t 13))])
 (.seq
 (.reg false [0, 8, 9, 10, 17] [
 oQ 14 (.mov (.t 0)), oQ 15 (.mov (.t 6)), oQ 16 (.eff (.getM false (.bool false)) [(.t 14), (.t 15)]), oQ 17 (.un .not (.t 16))])
 (.cond (.t 17)
 (.seq
 (.reg false [4] [
 oQ 4 (.mov (.c (.bool false)))])
 .ret)
 .skip))))
 (.reg false [0, 8, 9, 10] [
 oQ 18 (.bin .add (.t 10) (.c (.int .i64 1))), oQ 10 (.mov (.t 18))])))))))
 (.seq
 (.reg false [4] [
 oQ 4 (.mov (.c (.bool true)))])
 .ret)))
def rc_guard_known_enter : RC :=
 (.seq
 (.seq
 (.reg false [0, 1, 2, 15] [
 oQ 8 (.mov (.t 2)), oQ 9 (.bin .lss (.t 8) (.c (.int .i64 0))), oQ 10 (.mov (.t 9)), oG 11 10 false (.mov (.t 2)), oG 12 10 false (.mov (.t 1)), oG 13 10 false (.len false (.t 12)), oG 14 10 false (.bin .geq (.t 11) (.t 13)), oQ 15 (.pick (.t 10) (.c (.bool true)) (.t 14))])
 (.cond (.t 15)
 .ret
 .skip))
 (.seq
 (.reg false [0, 20, 21, 22] [
 oQ 16 (.mov (.t 1)), oQ 17 (.mov (.t 2)), oQ 18 (.idx 2 (.t 16) (.t 17)), oQ 19 (.load true 2 (.t 18)), oQ 20 (.call (.c (.fn (.func 66) [] [])) [(.t 19)]), oQ 21 (.len false (.t 20)), oQ 22 (.mov (.c (.int .i64 0)))])
 (.block 0
 (.loop
 (.seq
 (.reg false [0, 20, 21, 22, 23] [
 oQ 23 (.bin .lss (.t 22) (.t 21))])
 (.seq
 (.cond (.t 23)
 .skip
 (.exit 0))
 (.seq
 (.block 1
 (.seq
 (.reg false [0, 7, 20, 21, 22] [
 oQ 24 (.idx 1 (.t 20) (.t 22)), oQ 25 (.load false 1 (.t 24)), oQ 7 (.mov (.t 25))])
 (.reg false [0, 20, 21, 22] [
 oQ 26 (.mov (.t 0)), oQ 27 (.mov (.t 7)), oN (.eff .setM [(.t 26), (.t 27), (.c (.bool true))])])))
 (.reg false [0, 20, 21, 22] [
 oQ 28 (.bin .add (.t 22) (.c (.int .i64 1))), oQ 22 (.mov (.t 28))]))))))))
def rc_constraintref28_Keys : RC :=
 (.seq
 (.reg false [1] [
 oQ 1 (.box (.t 0)), oQ 2 (.mov (.c (.sl .full [])))])
 (.seq
 (.reg false [1, 3] [
 oQ 3 (.mov (.c (.sl .full [])))])
 (.seq
 (.seq
 (.reg false [1, 3, 4] [
 oQ 4 (.mov (.c (.int .i64 0)))])
 (.block 0
 (.loop
 (.seq
 (.seq
 (.reg false [1, 3, 4, 12] [
 oQ 8 (.mov (.t 4)), oQ 9 (.fptr 1 (.t 1)), oQ 10 (.load false 1 (.t 9)), oQ 11 (.len false (.t 10)), oQ 12 (.bin .lss (.t 8) (.t 11))])
 (.cond (.t 12)
 .skip
 (.exit 0)))
 (.seq
 (.block 1
 (.seq
 (.reg false [1, 3, 4, 5, 6] [
 oQ 16 (.fptr 1 (.t 1)), oQ 17 (.load false 1 (.t 16)), oQ 18 (.mov (.t 4)), oQ 19 (.idx 6 (.t 17) (.t 18)), oQ 20 (.load true 6 (.t 19)), oQ 21 (.call (.c (.fn (.func 43) [] [])) [(.t 20)]), oQ 15 (.mov (.t 21)), oQ 22 (.ext 0 (.t 15)), oQ 23 (.ext 1 (.t 15)), oQ 5 (.box (.c (.agg [(.str ⟨⟨[]⟩⟩), (.int .i64 0), (.sl .full [])]))), oN (.store 3 (.t 5) (.t 22)), oQ 6 (.mov (.t 23))])
 (.seq
 (.seq
 (.reg false [1, 3, 4, 5, 6, 7] [
 oQ 7 (.mov (.c (.int .i64 0)))])
 (.block 2
 (.loop
 (.seq
 (.seq
 (.reg false [1, 3, 4, 5, 6, 7, 27] [
 oQ 24 (.mov (.t 7)), oQ 25 (.more .see [(.t 3)]), oQ 26 (.len false (.t 25)), oQ 27 (.bin .lss (.t 24) (.t 26))])
 (.cond (.t 27)
 .skip
 (.exit 2)))
 (.seq
 (.block 3
 (.reg true [1, 3, 4, 5, 6, 7] [
 oQ 30 (.take 6), oQ 31 (.take 30), oG 32 31 true (.more .see [(.t 3)]), oG 33 31 true (.take 7), oG 34 31 true (.idx 3 (.t 32) (.t 33)), oG 35 31 true (.load true 3 (.t 34)), oG 36 31 true (.load true 3 (.t 5)), oG 37 31 true (.call (.c (.fn (.func 44) [] [])) [(.t 35), (.t 36)]), oG 38 31 true (.un .not (.t 37)), oQ 39 (.pick (.t 31) (.t 38) (.c (.bool false))), oQ 6 (.take 39)]))
 (.reg false [1, 3, 4, 5, 6, 7] [
 oQ 28 (.mov (.t 7)), oQ 29 (.bin .add (.t 28) (.c (.int .i64 1))), oQ 7 (.mov (.t 29))]))))))
 (.seq
 (.reg false [1, 3, 4, 5, 40] [
 oQ 40 (.mov (.t 6))])
 (.cond (.t 40)
 (.reg false [1, 3, 4] [
 oQ 41 (.mov (.t 3)), oQ 42 (.load true 3 (.t 5)), oQ 43 (.bslice 3 [(.t 42)]), oQ 44 (.append 3 (.t 41) (.t 43)), oQ 3 (.mov (.t 44))])
 .skip)))))
 (.reg false [1, 3, 4] [
 oQ 13 (.mov (.t 4)), oQ 14 (.bin .add (.t 13) (.c (.int .i64 1))), oQ 4 (.mov (.t 14))]))))))
 (.seq
 (.reg false [2] [
 oQ 45 (.mov (.t 3)), oQ 2 (.mov (.t 45))])
 .ret))))
theorem op_constraintref28_Keys (hn : vals.length ≤ 46) (h : SP Tryz.prog true vals bs rc_constraintref28_Keys [.slot 2] Q) : AM.Sem Tryz.prog 18 vals bs Q :=
  Sem.nrm (Sem.of (fn := Tryz.f18) (keeps := [(0, [1]), (1, [1, 3]), (2, [1, 3, 4]), (3, [1, 3, 4, 12]), (5, [1, 3, 4, 5, 6]), (6, [1, 3, 4, 5, 6, 7]), (7, [1, 3, 4, 5, 6, 7, 27]), (9, [1, 3, 4, 5, 6, 7]), (8, [1, 3, 4, 5, 6, 7]), (10, [1, 3, 4, 5, 40]), (11, [1, 3, 4]), (4, [1, 3, 4]), (12, [2]), (1000000, [25, 32])]) (solo := []) Tryz.func18 rfl (by kernel_rfl) (by kernel_rfl) (by kernel_rfl) hn (run_gp h))

def rc_constraintref28_OfRule : RC :=
 (.seq
 (.reg false [1, 2] [
 oQ 1 (.box (.t 0)), oQ 2 (.box (.c (.agg [(.str ⟨⟨[]⟩⟩), (.int .i64 0), (.sl .full [])]))), oQ 3 (.mov (.c (.bool false)))])
 (.seq
 (.reg false [1, 2, 4] [
 oQ 8 (.load true 6 (.t 1)), oQ 9 (.call (.c (.fn (.func 52) [] [])) [(.t 8)]), oQ 4 (.mov (.t 9))])
 (.seq
 (.seq
 (.reg true [2, 4, 62] [
 oQ 10 (.mov (.t 4)), oQ 11 (.len false (.t 10)), oQ 12 (.bin .neq (.t 11) (.c (.int .i64 2))), oQ 13 (.mov (.t 12)), oG 14 13 false (.fptr 2 (.t 1)), oG 15 13 false (.load false 1 (.t 14)), oG 16 13 false (.len false (.t 15)), oG 17 13 false (.bin .eql (.t 16) (.c (.int .i64 0))), oQ 18 (.pick (.t 13) (.c (.bool true)) (.t 17)), oQ 19 (.mov (.t 18)), oG 20 19 false (.fptr 3 (.t 1)), oG 21 19 false (.load false 1 (.t 20)), oG 22 19 false (.len false (.t 21)), oG 23 19 false (.bin .gtr (.t 22) (.c (.int .i64 0))), oQ 24 (.pick (.t 19) (.c (.bool true)) (.t 23)), oQ 25 (.mov (.t 24)), oG 26 25 false (.mov (.t 4)), oG 27 25 false (.idx 2 (.t 26) (.c (.int .i64 0))), oG 28 25 false (.fptr 0 (.t 27)), oG 29 25 false (.load false 1 (.t 28)), oG 30 25 false (.mov (.t 4)), oG 31 25 false (.idx 2 (.t 30) (.c (.int .i64 1))), oG 32 25 false (.fptr 0 (.t 31)), oG 33 25 false (.load false 1 (.t 32)), oG 34 25 false (.bin .neq (.t 29) (.t 33)), oQ 35 (.pick (.t 25) (.c (.bool true)) (.t 34)), oQ 36 (.mov (.t 35)), oG 37 36 false (.mov (.t 4)), oG 38 36 false (.idx 2 (.t 37) (.c (.int .i64 0))), oG 39 36 false (.fptr 1 (.t 38)), oG 40 36 false (.load false 1 (.t 39)), oG 41 36 false (.len false (.t 40)), oG 42 36 false (.mov (.t 4)), oG 43 36 false (.idx 2 (.t 42) (.c (.int .i64 1))), oG 44 36 false (.fptr 1 (.t 43)), oG 45 36 false (.load false 1 (.t 44)), oG 46 36 false (.len false (.t 45)), oG 47 36 false (.bin .neq (.t 41) (.t 46)), oQ 48 (.pick (.t 36) (.c (.bool true)) (.t 47)), oQ 49 (.mov (.t 48)), oG 50 49 false (.mov (.t 4)), oG 51 49 false (.idx 2 (.t 50) (.c (.int .i64 0))), oG 52 49 false (.load true 2 (.t 51)), oG 53 49 false (.call (.c (.fn (.func 64) [] [])) [(.t 52)]), oG 54 49 false (.un .not (.t 53)), oQ 55 (.pick (.t 49) (.c (.bool true)) (.t 54)), oQ 56 (.mov (.t 55)), oG 57 56 false (.mov (.t 4)), oG 58 56 false (.idx 2 (.t 57) (.c (.int .i64 1))), oG 59 56 false (.load true 2 (.t 58)), oG 60 56 false (.call (.c (.fn (.func 64) [] [])) [(.t 59)]), oG 61 56 false (.un .not (.t 60)), oQ 62 (.pick (.t 56) (.c (.bool true)) (.t 61))])
 (.cond (.t 62)
 (.seq
 (.reg false [2, 3] [
 oQ 63 (.build [(.str ⟨⟨[]⟩⟩), (.int .i64 0), (.sl .full [])] []), oN (.store 3 (.t 2) (.t 63)), oQ 3 (.mov (.c (.bool false)))])
 .ret)
 .skip))
 (.seq
 (.reg true [2, 4, 5] [
 oQ 64 (.mov (.t 4)), oQ 65 (.idx 2 (.t 64) (.c (.int .i64 0))), oQ 66 (.fptr 0 (.t 65)), oQ 67 (.load false 1 (.t 66)), oQ 68 (.mov (.t 4)), oQ 69 (.idx 2 (.t 68) (.c (.int .i64 0))), oQ 70 (.fptr 1 (.t 69)), oQ 71 (.load false 1 (.t 70)), oQ 72 (.len false (.t 71)), oQ 73 (.build [(.str ⟨⟨[]⟩⟩), (.int .i64 0), (.sl .full [])] [(0, 1, (.t 67)), (1, 1, (.t 72))]), oQ 5 (.box (.c (.agg [(.str ⟨⟨[]⟩⟩), (.int .i64 0), (.sl .full [])]))), oN (.store 3 (.t 5) (.t 73))])
 (.seq
 (.seq
 (.reg false [2, 4, 5, 6] [
 oQ 6 (.mov (.c (.int .i64 0)))])
 (.block 0
 (.loop
 (.seq
 (.seq
 (.reg false [2, 4, 5, 6, 80] [
 oQ 74 (.mov (.t 6)), oQ 75 (.mov (.t 4)), oQ 76 (.idx 2 (.t 75) (.c (.int .i64 0))), oQ 77 (.fptr 1 (.t 76)), oQ 78 (.load false 1 (.t 77)), oQ 79 (.len false (.t 78)), oQ 80 (.bin .lss (.t 74) (.t 79))])
 (.cond (.t 80)
 .skip
 (.exit 0)))
 (.seq
 (.block 1
 (.seq
 (.reg false [2, 4, 5, 6, 7] [
 oQ 7 (.mov (.c (.int .i64 0)))])
 (.block 2
 (.loop
 (.seq
 (.seq
 (.reg false [2, 4, 5, 6, 7, 89] [
 oQ 83 (.mov (.t 7)), oQ 84 (.mov (.t 4)), oQ 85 (.idx 2 (.t 84) (.c (.int .i64 1))), oQ 86 (.fptr 1 (.t 85)), oQ 87 (.load false 1 (.t 86)), oQ 88 (.len false (.t 87)), oQ 89 (.bin .lss (.t 83) (.t 88))])
 (.cond (.t 89)
 .skip
 (.exit 2)))
 (.seq
 (.block 3
 (.seq
 (.seq
 (.reg true [2, 4, 5, 6, 7, 108] [
 oQ 92 (.mov (.t 4)), oQ 93 (.idx 2 (.t 92) (.c (.int .i64 0))), oQ 94 (.fptr 1 (.t 93)), oQ 95 (.load false 1 (.t 94)), oQ 96 (.mov (.t 6)), oQ 97 (.idx 4 (.t 95) (.t 96)), oQ 98 (.fptr 1 (.t 97)), oQ 99 (.load false 1 (.t 98)), oQ 100 (.mov (.t 4)), oQ 101 (.idx 2 (.t 100) (.c (.int .i64 1))), oQ 102 (.fptr 1 (.t 101)), oQ 103 (.load false 1 (.t 102)), oQ 104 (.mov (.t 7)), oQ 105 (.idx 4 (.t 103) (.t 104)), oQ 106 (.fptr 1 (.t 105)), oQ 107 (.load false 1 (.t 106)), oQ 108 (.bin .neq (.t 99) (.t 107))])
 (.cond (.t 108)
 (.exit 3)
 .skip))
 (.seq
 (.seq
 (.reg false [2, 4, 5, 6, 7, 111] [
 oQ 109 (.mov (.t 6)), oQ 110 (.mov (.t 7)), oQ 111 (.bin .neq (.t 109) (.t 110))])
 (.cond (.t 111)
 (.seq
 (.reg false [2, 3] [
 oQ 112 (.build [(.str ⟨⟨[]⟩⟩), (.int .i64 0), (.sl .full [])] []), oN (.store 3 (.t 2) (.t 112)), oQ 3 (.mov (.c (.bool false)))])
 .ret)
 .skip))
 (.reg false [2, 4, 5, 6, 7] [
 oQ 113 (.fptr 2 (.t 5)), oQ 114 (.load false 1 (.t 113)), oQ 115 (.mov (.t 6)), oQ 116 (.bslice 1 [(.t 115)]), oQ 117 (.append 1 (.t 114) (.t 116)), oQ 118 (.fptr 2 (.t 5)), oN (.store 1 (.t 118) (.t 117))]))))
 (.reg false [2, 4, 5, 6, 7] [
 oQ 90 (.mov (.t 7)), oQ 91 (.bin .add (.t 90) (.c (.int .i64 1))), oQ 7 (.mov (.t 91))])))))))
 (.reg false [2, 4, 5, 6] [
 oQ 81 (.mov (.t 6)), oQ 82 (.bin .add (.t 81) (.c (.int .i64 1))), oQ 6 (.mov (.t 82))]))))))
 (.seq
 (.reg false [2, 3] [
 oQ 119 (.load true 3 (.t 5)), oN (.store 3 (.t 2) (.t 119)), oQ 3 (.mov (.c (.bool true)))])
 .ret))))))
theorem op_constraintref28_OfRule (hn : vals.length ≤ 120) (h : SP Tryz.prog true vals bs rc_constraintref28_OfRule [.cell 2 true 3, .slot 3] Q) : AM.Sem Tryz.prog 43 vals bs Q :=
  Sem.nrm (Sem.of (fn := Tryz.f43) (keeps := [(0, [1, 2]), (1, [1, 2, 4]), (2, [2, 4, 62]), (3, [2, 3]), (4, [2, 4, 5]), (5, [2, 4, 5, 6]), (6, [2, 4, 5, 6, 80]), (8, [2, 4, 5, 6, 7]), (9, [2, 4, 5, 6, 7, 89]), (11, [2, 4, 5, 6, 7, 108]), (12, [2, 4, 5, 6, 7, 111]), (13, [2, 3]), (14, [2, 4, 5, 6, 7]), (10, [2, 4, 5, 6, 7]), (7, [2, 4, 5, 6]), (15, [2, 3])]) (solo := []) Tryz.func43 rfl (by kernel_rfl) (by kernel_rfl) (by kernel_rfl) hn (run_gp h))

def rc_constraintref28_Same : RC :=
 (.seq
 (.reg false [2, 3] [
 oQ 2 (.box (.t 0)), oQ 3 (.box (.t 1)), oQ 4 (.mov (.c (.bool false)))])
 (.seq
 (.seq
 (.reg false [2, 3, 26] [
 oQ 6 (.fptr 0 (.t 2)), oQ 7 (.load false 1 (.t 6)), oQ 8 (.fptr 0 (.t 3)), oQ 9 (.load false 1 (.t 8)), oQ 10 (.bin .neq (.t 7) (.t 9)), oQ 11 (.mov (.t 10)), oG 12 11 false (.fptr 1 (.t 2)), oG 13 11 false (.load false 1 (.t 12)), oG 14 11 false (.fptr 1 (.t 3)), oG 15 11 false (.load false 1 (.t 14)), oG 16 11 false (.bin .neq (.t 13) (.t 15)), oQ 17 (.pick (.t 11) (.c (.bool true)) (.t 16)), oQ 18 (.mov (.t 17)), oG 19 18 false (.fptr 2 (.t 2)), oG 20 18 false (.load false 1 (.t 19)), oG 21 18 false (.len false (.t 20)), oG 22 18 false (.fptr 2 (.t 3)), oG 23 18 false (.load false 1 (.t 22)), oG 24 18 false (.len false (.t 23)), oG 25 18 false (.bin .neq (.t 21) (.t 24)), oQ 26 (.pick (.t 18) (.c (.bool true)) (.t 25))])
 (.cond (.t 26)
 (.seq
 (.reg false [4] [
 oQ 4 (.mov (.c (.bool false)))])
 .ret)
 .skip))
 (.seq
 (.seq
 (.reg false [2, 3, 5] [
 oQ 5 (.mov (.c (.int .i64 0)))])
 (.block 0
 (.loop
 (.seq
 (.seq
 (.reg false [2, 3, 5, 31] [
 oQ 27 (.mov (.t 5)), oQ 28 (.fptr 2 (.t 2)), oQ 29 (.load false 1 (.t 28)), oQ 30 (.len false (.t 29)), oQ 31 (.bin .lss (.t 27) (.t 30))])
 (.cond (.t 31)
 .skip
 (.exit 0)))
 (.seq
 (.block 1
 (.seq
 (.reg true [2, 3, 5, 44] [
 oQ 34 (.fptr 2 (.t 2)), oQ 35 (.load false 1 (.t 34)), oQ 36 (.mov (.t 5)), oQ 37 (.idx 1 (.t 35) (.t 36)), oQ 38 (.load false 1 (.t 37)), oQ 39 (.fptr 2 (.t 3)), oQ 40 (.load false 1 (.t 39)), oQ 41 (.mov (.t 5)), oQ 42 (.idx 1 (.t 40) (.t 41)), oQ 43 (.load false 1 (.t 42)), oQ 44 (.bin .neq (.t 38) (.t 43))])
 (.cond (.t 44)
 (.seq
 (.reg false [4] [
 oQ 4 (.mov (.c (.bool false)))])
 .ret)
 .skip)))
 (.reg false [2, 3, 5] [
 oQ 32 (.mov (.t 5)), oQ 33 (.bin .add (.t 32) (.c (.int .i64 1))), oQ 5 (.mov (.t 33))]))))))
 (.seq
 (.reg false [4] [
 oQ 4 (.mov (.c (.bool true)))])
 .ret))))
theorem op_constraintref28_Same (hn : vals.length ≤ 45) (h : SP Tryz.prog true vals bs rc_constraintref28_Same [.slot 4] Q) : AM.Sem Tryz.prog 44 vals bs Q :=
  Sem.nrm (Sem.of (fn := Tryz.f44) (keeps := [(0, [2, 3]), (1, [2, 3, 26]), (2, [4]), (3, [2, 3, 5]), (4, [2, 3, 5, 31]), (6, [2, 3, 5, 44]), (7, [4]), (5, [2, 3, 5]), (8, [4])]) (solo := []) Tryz.func44 rfl (by kernel_rfl) (by kernel_rfl) (by kernel_rfl) hn (run_gp h))

def rc_constraintref28_plain : RC :=
 (.seq
 (.reg false [1] [
 oQ 1 (.box (.t 0)), oQ 2 (.mov (.c (.bool false)))])
 (.seq
 (.seq
 (.reg false [1, 3] [
 oQ 3 (.mov (.c (.int .i64 0)))])
 (.block 0
 (.loop
 (.seq
 (.seq
 (.reg false [1, 3, 9] [
 oQ 5 (.mov (.t 3)), oQ 6 (.fptr 1 (.t 1)), oQ 7 (.load false 1 (.t 6)), oQ 8 (.len false (.t 7)), oQ 9 (.bin .lss (.t 5) (.t 8))])
 (.cond (.t 9)
 .skip
 (.exit 0)))
 (.seq
 (.block 1
 (.seq
 (.seq
 (.reg false [1, 3, 18] [
 oQ 12 (.fptr 1 (.t 1)), oQ 13 (.load false 1 (.t 12)), oQ 14 (.mov (.t 3)), oQ 15 (.idx 4 (.t 13) (.t 14)), oQ 16 (.fptr 0 (.t 15)), oQ 17 (.load false 1 (.t 16)), oQ 18 (.bin .neq (.t 17) (.c (.int .i64 1)))])
 (.cond (.t 18)
 (.seq
 (.reg false [2] [
 oQ 2 (.mov (.c (.bool false)))])
 .ret)
 .skip))
 (.seq
 (.reg false [1, 3, 4] [
 oQ 4 (.mov (.c (.int .i64 0)))])
 (.block 2
 (.loop
 (.seq
 (.seq
 (.reg false [1, 3, 4, 21] [
 oQ 19 (.mov (.t 4)), oQ 20 (.mov (.t 3)), oQ 21 (.bin .lss (.t 19) (.t 20))])
 (.cond (.t 21)
 .skip
 (.exit 2)))
 (.seq
 (.block 3
 (.seq
 (.reg true [1, 3, 4, 36] [
 oQ 24 (.fptr 1 (.t 1)), oQ 25 (.load false 1 (.t 24)), oQ 26 (.take 4), oQ 27 (.idx 4 (.t 25) (.t 26)), oQ 28 (.fptr 1 (.t 27)), oQ 29 (.load false 1 (.t 28)), oQ 30 (.fptr 1 (.t 1)), oQ 31 (.load false 1 (.t 30)), oQ 32 (.take 3), oQ 33 (.idx 4 (.t 31) (.t 32)), oQ 34 (.fptr 1 (.t 33)), oQ 35 (.load false 1 (.t 34)), oQ 36 (.bin .eql (.t 29) (.t 35))])
 (.cond (.t 36)
 (.seq
 (.reg false [2] [
 oQ 2 (.mov (.c (.bool false)))])
 .ret)
 .skip)))
 (.reg false [1, 3, 4] [
 oQ 22 (.mov (.t 4)), oQ 23 (.bin .add (.t 22) (.c (.int .i64 1))), oQ 4 (.mov (.t 23))]))))))))
 (.reg false [1, 3] [
 oQ 10 (.mov (.t 3)), oQ 11 (.bin .add (.t 10) (.c (.int .i64 1))), oQ 3 (.mov (.t 11))]))))))
 (.seq
 (.reg false [2] [
 oQ 2 (.mov (.c (.bool true)))])
 .ret)))
theorem op_constraintref28_plain (hn : vals.length ≤ 37) (h : SP Tryz.prog true vals bs rc_constraintref28_plain [.slot 2] Q) : AM.Sem Tryz.prog 64 vals bs Q :=
  Sem.nrm (Sem.of (fn := Tryz.f64) (keeps := [(0, [1]), (1, [1, 3]), (2, [1, 3, 9]), (4, [1, 3, 18]), (5, [2]), (6, [1, 3, 4]), (7, [1, 3, 4, 21]), (9, [1, 3, 4, 36]), (10, [2]), (8, [1, 3, 4]), (3, [1, 3]), (11, [2])]) (solo := []) Tryz.func64 rfl (by kernel_rfl) (by kernel_rfl) (by kernel_rfl) hn (run_gp h))

def rc_constraintref29_All : RC :=
 (.seq
 (.reg false [1] [
 oQ 1 (.box (.t 0)), oQ 2 (.mov (.c (.sl .full [])))])
 (.seq
 (.reg false [1, 3] [
 oQ 7 (.load true 2 (.t 1)), oQ 8 (.call (.c (.fn (.func 18) [] [])) [(.t 7)]), oQ 3 (.mov (.t 8))])
 (.seq
 (.reg false [1, 3, 4] [
 oQ 9 (.load true 2 (.t 1)), oQ 10 (.call (.c (.fn (.func 19) [] [])) [(.t 9)]), oQ 4 (.mov (.t 10))])
 (.seq
 (.reg false [1, 3, 4, 5] [
 oQ 5 (.mov (.c (.sl .full [])))])
 (.seq
 (.seq
 (.reg false [1, 3, 4, 5, 6] [
 oQ 6 (.mov (.c (.int .i64 0)))])
 (.block 0
 (.loop
 (.seq
 (.seq
 (.reg false [1, 3, 4, 5, 6, 14] [
 oQ 11 (.mov (.t 6)), oQ 12 (.mov (.t 4)), oQ 13 (.len false (.t 12)), oQ 14 (.bin .lss (.t 11) (.t 13))])
 (.cond (.t 14)
 .skip
 (.exit 0)))
 (.seq
 (.block 1
 (.reg true [1, 3, 4, 5, 6] [
 oQ 17 (.take 5), oQ 18 (.load true 2 (.t 1)), oQ 19 (.take 3), oQ 20 (.take 4), oQ 21 (.take 6), oQ 22 (.idx 3 (.t 20) (.t 21)), oQ 23 (.load true 3 (.t 22)), oQ 24 (.call (.c (.fn (.func 10) [] [])) [(.t 18), (.t 19), (.t 23)]), oQ 25 (.bslice 6 [(.t 24)]), oQ 26 (.append 6 (.t 17) (.t 25)), oQ 5 (.take 26)]))
 (.reg false [1, 3, 4, 5, 6] [
 oQ 15 (.mov (.t 6)), oQ 16 (.bin .add (.t 15) (.c (.int .i64 1))), oQ 6 (.mov (.t 16))]))))))
 (.seq
 (.reg false [2] [
 oQ 27 (.mov (.t 5)), oQ 2 (.mov (.t 27))])
 .ret))))))
theorem op_constraintref29_All (hn : vals.length ≤ 28) (h : SP Tryz.prog true vals bs rc_constraintref29_All [.slot 2] Q) : AM.Sem Tryz.prog 7 vals bs Q :=
  Sem.nrm (Sem.of (fn := Tryz.f7) (keeps := [(0, [1]), (1, [1, 3]), (2, [1, 3, 4]), (3, [1, 3, 4, 5]), (4, [1, 3, 4, 5, 6]), (5, [1, 3, 4, 5, 6, 14]), (7, [1, 3, 4, 5, 6]), (6, [1, 3, 4, 5, 6]), (8, [2])]) (solo := []) Tryz.func7 rfl (by kernel_rfl) (by kernel_rfl) (by kernel_rfl) hn (run_gp h))

def rc_constraintref29_Of : RC :=
 (.seq
 (.reg false [1, 3, 5, 6] [
 oQ 3 (.box (.t 0)), oQ 5 (.box (.t 2)), oQ 6 (.box (.c (.agg [(.int .i64 0), (.int .i64 0), (.bool false), (.sl .full []), (.sl .full []), (.sl .full [])])))])
 (.seq
 (.seq
 (.reg false [1, 3, 5, 6, 15] [
 oQ 12 (.load true 2 (.t 3)), oQ 13 (.load true 3 (.t 5)), oQ 14 (.call (.c (.fn (.func 26) [] [])) [(.t 12), (.t 13)]), oQ 15 (.un .not (.t 14))])
 (.cond (.t 15)
 (.seq
 (.reg false [6] [
 oQ 16 (.build [(.int .i64 0), (.int .i64 0), (.bool false), (.sl .full []), (.sl .full []), (.sl .full [])] []), oN (.store 6 (.t 6) (.t 16))])
 .ret)
 .skip))
 (.seq
 (.reg false [1, 3, 5, 6, 7] [
 oQ 17 (.load true 2 (.t 3)), oQ 18 (.load true 3 (.t 5)), oQ 19 (.call (.c (.fn (.func 27) [] [])) [(.t 17), (.t 18)]), oQ 7 (.mov (.t 19))])
 (.seq
 (.reg false [1, 3, 5, 6, 7, 8] [
 oQ 20 (.fptr 1 (.t 5)), oQ 21 (.load false 1 (.t 20)), oQ 22 (.bslice 1 [(.t 21)]), oQ 8 (.mov (.t 22))])
 (.seq
 (.block 0
 (.loop
 (.seq
 (.seq
 (.reg false [1, 3, 5, 6, 7, 8, 25] [
 oQ 23 (.mov (.t 7)), oQ 24 (.len false (.t 23)), oQ 25 (.bin .gtr (.t 24) (.c (.int .i64 0)))])
 (.cond (.t 25)
 .skip
 (.exit 0)))
 (.block 1
 (.seq
 (.reg false [1, 3, 5, 6, 7, 8, 9] [
 oQ 9 (.mov (.c (.int .i64 0)))])
 (.seq
 (.seq
 (.reg false [1, 3, 5, 6, 7, 8, 9, 10] [
 oQ 10 (.mov (.c (.int .i64 1)))])
 (.block 2
 (.loop
 (.seq
 (.seq
 (.reg false [1, 3, 5, 6, 7, 8, 9, 10, 29] [
 oQ 26 (.mov (.t 10)), oQ 27 (.mov (.t 7)), oQ 28 (.len false (.t 27)), oQ 29 (.bin .lss (.t 26) (.t 28))])
 (.cond (.t 29)
 .skip
 (.exit 2)))
 (.seq
 (.block 3
 (.seq
 (.reg true [1, 3, 5, 6, 7, 8, 9, 10, 52] [
 oQ 32 (.load true 2 (.t 3)), oQ 33 (.mov (.t 1)), oQ 34 (.fptr 0 (.t 5)), oQ 35 (.load false 1 (.t 34)), oQ 36 (.more .see [(.t 8)]), oQ 37 (.mov (.t 7)), oQ 38 (.mov (.t 10)), oQ 39 (.idx 1 (.t 37) (.t 38)), oQ 40 (.load false 1 (.t 39)), oQ 41 (.call (.c (.fn (.func 28) [] [])) [(.t 32), (.t 33), (.t 35), (.t 36), (.t 40)]), oQ 42 (.load true 2 (.t 3)), oQ 43 (.mov (.t 1)), oQ 44 (.fptr 0 (.t 5)), oQ 45 (.load false 1 (.t 44)), oQ 46 (.more .see [(.t 8)]), oQ 47 (.mov (.t 7)), oQ 48 (.mov (.t 9)), oQ 49 (.idx 1 (.t 47) (.t 48)), oQ 50 (.load false 1 (.t 49)), oQ 51 (.call (.c (.fn (.func 28) [] [])) [(.t 42), (.t 43), (.t 45), (.t 46), (.t 50)]), oQ 52 (.bin .gtr (.t 41) (.t 51))])
 (.cond (.t 52)
 (.reg false [1, 3, 5, 6, 7, 8, 9, 10] [
 oQ 53 (.mov (.t 10)), oQ 9 (.mov (.t 53))])
 .skip)))
 (.reg false [1, 3, 5, 6, 7, 8, 9, 10] [
 oQ 30 (.mov (.t 10)), oQ 31 (.bin .add (.t 30) (.c (.int .i64 1))), oQ 10 (.mov (.t 31))]))))))
 (.seq
 (.reg false [1, 3, 5, 6, 7, 8, 9] [
 oQ 54 (.mov (.t 8)), oQ 55 (.mov (.t 7)), oQ 56 (.mov (.t 9)), oQ 57 (.idx 1 (.t 55) (.t 56)), oQ 58 (.load false 1 (.t 57)), oQ 59 (.bslice 1 [(.t 58)]), oQ 60 (.append 1 (.t 54) (.t 59)), oQ 8 (.mov (.t 60))])
 (.seq
 (.reg false [1, 3, 5, 6, 7, 8, 9, 11] [
 oQ 11 (.mov (.c (.sl .full [])))])
 (.seq
 (.reg false [1, 3, 5, 6, 7, 8, 9, 11] [
 oQ 61 (.mov (.t 11)), oQ 62 (.mov (.t 7)), oQ 63 (.mov (.t 9)), oQ 64 (.slc 1 (.t 62) none (some (.t 63)) none), oQ 65 (.append 1 (.t 61) (.t 64)), oQ 11 (.mov (.t 65))])
 (.reg false [1, 3, 5, 6, 7, 8] [
 oQ 66 (.mov (.t 11)), oQ 67 (.mov (.t 7)), oQ 68 (.mov (.t 9)), oQ 69 (.bin .add (.t 68) (.c (.int .i64 1))), oQ 70 (.slc 1 (.t 67) (some (.t 69)) none none), oQ 71 (.append 1 (.t 66) (.t 70)), oQ 7 (.mov (.t 71))]))))))))))
 (.seq
 (.reg true [6] [
 oQ 72 (.fptr 1 (.t 3)), oQ 73 (.load false 1 (.t 72)), oQ 74 (.fptr 0 (.t 5)), oQ 75 (.load false 1 (.t 74)), oQ 76 (.idx 6 (.t 73) (.t 75)), oQ 77 (.load true 6 (.t 76)), oQ 78 (.load true 3 (.t 5)), oQ 79 (.take 8), oQ 80 (.slc 1 (.t 79) (some (.c (.int .i64 1))) none none), oQ 81 (.call (.c (.fn (.func 29) [] [])) [(.t 77), (.t 78), (.t 80)]), oN (.store 6 (.t 6) (.t 81))])
 .ret))))))
theorem op_constraintref29_Of (hn : vals.length ≤ 82) (h : SP Tryz.prog true vals bs rc_constraintref29_Of [.cell 6 true 6] Q) : AM.Sem Tryz.prog 10 vals bs Q :=
  Sem.nrm (Sem.of (fn := Tryz.f10) (keeps := [(0, [1, 3, 5, 6]), (1, [1, 3, 5, 6, 15]), (2, [6]), (3, [1, 3, 5, 6, 7]), (4, [1, 3, 5, 6, 7, 8]), (5, [1, 3, 5, 6, 7, 8, 25]), (6, [1, 3, 5, 6, 7, 8, 9]), (7, [1, 3, 5, 6, 7, 8, 9, 10]), (8, [1, 3, 5, 6, 7, 8, 9, 10, 29]), (10, [1, 3, 5, 6, 7, 8, 9, 10, 52]), (11, [1, 3, 5, 6, 7, 8, 9, 10]), (9, [1, 3, 5, 6, 7, 8, 9, 10]), (12, [1, 3, 5, 6, 7, 8, 9]), (13, [1, 3, 5, 6, 7, 8, 9, 11]), (14, [1, 3, 5, 6, 7, 8, 9, 11]), (15, [1, 3, 5, 6, 7, 8]), (16, [6]), (1000000, [36, 46])]) (solo := []) Tryz.func10 rfl (by kernel_rfl) (by kernel_rfl) (by kernel_rfl) hn (run_gp h))

def rc_constraintlaw29_PlanPlans : RC :=
 (.seq
 (.reg false [1, 3, 5] [
 oQ 3 (.box (.t 0)), oQ 5 (.box (.t 2)), oQ 6 (.mov (.c (.bool false)))])
 (.seq
 (.seq
 (.reg false [1, 3, 5, 12] [
 oQ 10 (.load true 2 (.t 3)), oQ 11 (.mov (.t 1)), oQ 12 (.call (.c (.fn (.func 4) [] [])) [(.t 10), (.t 11)])])
 (.cond (.t 12)
 (.seq
 (.reg false [6] [
 oQ 13 (.call (.c (.fn (.func 5) [] [])) []), oQ 6 (.mov (.t 13))])
 .ret)
 .skip))
 (.seq
 (.reg true [1, 3, 5, 7, 8] [
 oQ 14 (.load true 2 (.t 3)), oQ 15 (.call (.c (.fn (.func 6) [] [])) [(.t 14)]), oQ 16 (.load true 2 (.t 3)), oQ 17 (.call (.c (.fn (.func 7) [] [])) [(.t 16)]), oQ 7 (.take 15), oQ 8 (.take 17)])
 (.seq
 (.seq
 (.reg false [1, 3, 5, 7, 8, 22] [
 oQ 18 (.mov (.t 7)), oQ 19 (.len false (.t 18)), oQ 20 (.mov (.t 8)), oQ 21 (.len false (.t 20)), oQ 22 (.bin .neq (.t 19) (.t 21))])
 (.cond (.t 22)
 (.seq
 (.reg false [6] [
 oQ 6 (.mov (.c (.bool false)))])
 .ret)
 .skip))
 (.seq
 (.seq
 (.reg false [1, 3, 5, 7, 8, 9] [
 oQ 9 (.mov (.c (.int .i64 0)))])
 (.block 0
 (.loop
 (.seq
 (.seq
 (.reg false [1, 3, 5, 7, 8, 9, 26] [
 oQ 23 (.mov (.t 9)), oQ 24 (.mov (.t 7)), oQ 25 (.len false (.t 24)), oQ 26 (.bin .lss (.t 23) (.t 25))])
 (.cond (.t 26)
 .skip
 (.exit 0)))
 (.seq
 (.block 1
 (.seq
 (.reg true [1, 3, 5, 7, 8, 9, 38] [
 oQ 29 (.mov (.t 7)), oQ 30 (.mov (.t 9)), oQ 31 (.idx 6 (.t 29) (.t 30)), oQ 32 (.load true 6 (.t 31)), oQ 33 (.mov (.t 8)), oQ 34 (.mov (.t 9)), oQ 35 (.idx 6 (.t 33) (.t 34)), oQ 36 (.load true 6 (.t 35)), oQ 37 (.call (.c (.fn (.func 8) [] [])) [(.t 32), (.t 36)]), oQ 38 (.un .not (.t 37))])
 (.cond (.t 38)
 (.seq
 (.reg false [6] [
 oQ 6 (.mov (.c (.bool false)))])
 .ret)
 .skip)))
 (.reg false [1, 3, 5, 7, 8, 9] [
 oQ 27 (.mov (.t 9)), oQ 28 (.bin .add (.t 27) (.c (.int .i64 1))), oQ 9 (.mov (.t 28))]))))))
 (.seq
 (.reg true [6] [
 oQ 39 (.load true 2 (.t 3)), oQ 40 (.mov (.t 1)), oQ 41 (.load true 3 (.t 5)), oQ 42 (.call (.c (.fn (.func 9) [] [])) [(.t 39), (.t 40), (.t 41)]), oQ 43 (.load true 2 (.t 3)), oQ 44 (.mov (.t 1)), oQ 45 (.load true 3 (.t 5)), oQ 46 (.call (.c (.fn (.func 10) [] [])) [(.t 43), (.t 44), (.t 45)]), oQ 47 (.call (.c (.fn (.func 8) [] [])) [(.t 42), (.t 46)]), oQ 48 (.take 47), oG 49 48 true (.call (.c (.fn (.func 5) [] [])) []), oQ 50 (.pick (.t 48) (.t 49) (.c (.bool false))), oQ 6 (.mov (.t 50))])
 .ret))))))
theorem op_constraintlaw29_PlanPlans (hn : vals.length ≤ 51) (h : SP Tryz.prog true vals bs rc_constraintlaw29_PlanPlans [.slot 6] Q) : AM.Sem Tryz.prog 3 vals bs Q :=
  Sem.nrm (Sem.of (fn := Tryz.f3) (keeps := [(0, [1, 3, 5]), (1, [1, 3, 5, 12]), (2, [6]), (3, [1, 3, 5, 7, 8]), (4, [1, 3, 5, 7, 8, 22]), (5, [6]), (6, [1, 3, 5, 7, 8, 9]), (7, [1, 3, 5, 7, 8, 9, 26]), (9, [1, 3, 5, 7, 8, 9, 38]), (10, [6]), (8, [1, 3, 5, 7, 8, 9]), (11, [6])]) (solo := []) Tryz.func3 rfl (by kernel_rfl) (by kernel_rfl) (by kernel_rfl) hn (run_gp h))

def rc_plan_of : RC :=
 (.seq
 (.reg false [1, 2, 4] [
 oQ 2 (.box (.t 0)), oQ 4 (.box (.c (.agg [(.str ⟨⟨[]⟩⟩), (.sl .full []), (.sl .full []), (.sl .full []), (.sl .full []), (.int .i64 0), (.sl .full [])]))), oQ 5 (.mov (.c (.bool false)))])
 (.seq
 (.seq
 (.reg false [1, 2, 4, 14] [
 oQ 6 (.mov (.t 1)), oQ 7 (.bin .lss (.t 6) (.c (.int .i64 0))), oQ 8 (.mov (.t 7)), oG 9 8 false (.mov (.t 1)), oG 10 8 false (.fptr 1 (.t 2)), oG 11 8 false (.load false 1 (.t 10)), oG 12 8 false (.len false (.t 11)), oG 13 8 false (.bin .geq (.t 9) (.t 12)), oQ 14 (.pick (.t 8) (.c (.bool true)) (.t 13))])
 (.cond (.t 14)
 (.seq
 (.reg false [4, 5] [
 oQ 15 (.build [(.str ⟨⟨[]⟩⟩), (.sl .full []), (.sl .full []), (.sl .full []), (.sl .full []), (.int .i64 0), (.sl .full [])] []), oN (.store 7 (.t 4) (.t 15)), oQ 5 (.mov (.c (.bool false)))])
 .ret)
 .skip))
 (.seq
 (.reg true [4, 5] [
 oQ 16 (.fptr 1 (.t 2)), oQ 17 (.load false 1 (.t 16)), oQ 18 (.mov (.t 1)), oQ 19 (.idx 6 (.t 17) (.t 18)), oQ 20 (.load true 6 (.t 19)), oQ 21 (.fptr 1 (.t 2)), oQ 22 (.load false 1 (.t 21)), oQ 23 (.mov (.t 1)), oQ 24 (.idx 6 (.t 22) (.t 23)), oQ 25 (.load true 6 (.t 24)), oQ 26 (.call (.c (.fn (.func 46) [] [])) [(.t 25)]), oQ 27 (.build [(.str ⟨⟨[]⟩⟩), (.sl .full []), (.sl .full []), (.sl .full []), (.sl .full []), (.int .i64 0), (.sl .full [])] [(0, 6, (.t 20)), (6, 1, (.t 26))]), oN (.store 7 (.t 4) (.t 27)), oQ 5 (.mov (.c (.bool true)))])
 .ret)))
theorem op_plan_of (hn : vals.length ≤ 28) (h : SP Tryz.prog true vals bs rc_plan_of [.cell 4 true 7, .slot 5] Q) : AM.Sem Tryz.prog 22 vals bs Q :=
  Sem.nrm (Sem.of (fn := Tryz.f22) (keeps := [(0, [1, 2, 4]), (1, [1, 2, 4, 14]), (2, [4, 5]), (3, [4, 5])]) (solo := []) Tryz.func22 rfl (by kernel_rfl) (by kernel_rfl) (by kernel_rfl) hn (run_gp h))

def rc_plan_All : RC :=
 (.seq
 (.reg false [1] [
 oQ 1 (.box (.t 0)), oQ 2 (.mov (.c (.sl .full [])))])
 (.seq
 (.reg false [1, 3] [
 oQ 7 (.load true 2 (.t 1)), oQ 8 (.call (.c (.fn (.func 16) [] [])) [(.t 7)]), oQ 3 (.mov (.t 8))])
 (.seq
 (.reg false [1, 3, 4] [
 oQ 4 (.mov (.c (.sl .full [])))])
 (.seq
 (.seq
 (.reg false [1, 3, 4, 10, 11, 12] [
 oQ 9 (.load true 2 (.t 1)), oQ 10 (.call (.c (.fn (.func 17) [] [])) [(.t 9)]), oQ 11 (.len false (.t 10)), oQ 12 (.mov (.c (.int .i64 0)))])
 (.block 0
 (.loop
 (.seq
 (.reg false [1, 3, 4, 10, 11, 12, 13] [
 oQ 13 (.bin .lss (.t 12) (.t 11))])
 (.seq
 (.cond (.t 13)
 .skip
 (.exit 0))
 (.seq
 (.block 1
 (.seq
 (.reg false [1, 3, 4, 6, 10, 11, 12] [
 oQ 14 (.idx 3 (.t 10) (.t 12)), oQ 15 (.load true 3 (.t 14)), oQ 6 (.box (.c (.agg [(.int .i64 0), (.int .i64 0), (.bool false)]))), oN (.store 3 (.t 6) (.t 15))])
 (.reg false [1, 3, 4, 10, 11, 12] [
 oQ 16 (.mov (.t 4)), oQ 17 (.load true 2 (.t 1)), oQ 18 (.mov (.t 3)), oQ 19 (.load true 3 (.t 6)), oQ 20 (.call (.c (.fn (.func 9) [] [])) [(.t 17), (.t 18), (.t 19)]), oQ 21 (.bslice 6 [(.t 20)]), oQ 22 (.append 6 (.t 16) (.t 21)), oQ 4 (.mov (.t 22))])))
 (.reg false [1, 3, 4, 10, 11, 12] [
 oQ 23 (.bin .add (.t 12) (.c (.int .i64 1))), oQ 12 (.mov (.t 23))])))))))
 (.seq
 (.reg false [2] [
 oQ 24 (.mov (.t 4)), oQ 2 (.mov (.t 24))])
 .ret)))))
theorem op_plan_All (hn : vals.length ≤ 25) (h : SP Tryz.prog true vals bs rc_plan_All [.slot 2] Q) : AM.Sem Tryz.prog 6 vals bs Q :=
  Sem.nrm (Sem.of (fn := Tryz.f6) (keeps := [(0, [1]), (1, [1, 3]), (2, [1, 3, 4]), (3, [1, 3, 4, 10, 11, 12]), (4, [1, 3, 4, 10, 11, 12, 13]), (5, [1, 3, 4, 6, 10, 11, 12]), (6, [1, 3, 4, 10, 11, 12]), (7, [1, 3, 4, 10, 11, 12]), (8, [2])]) (solo := []) Tryz.func6 rfl (by kernel_rfl) (by kernel_rfl) (by kernel_rfl) hn (run_gp h))

def rc_plan_Score : RC :=
 (.seq
 (.reg false [1, 2, 3, 4, 5] [
 oQ 5 (.box (.t 0)), oQ 10 (.mov (.c (.int .i64 0)))])
 (.seq
 (.reg false [1, 3, 4, 11, 12] [
 oQ 14 (.load true 2 (.t 5)), oQ 15 (.mov (.t 2)), oQ 16 (.call (.c (.fn (.func 22) [] [])) [(.t 14), (.t 15)]), oQ 13 (.mov (.t 16)), oQ 17 (.ext 0 (.t 13)), oQ 18 (.ext 1 (.t 13)), oQ 11 (.box (.c (.agg [(.str ⟨⟨[]⟩⟩), (.sl .full []), (.sl .full []), (.sl .full []), (.sl .full []), (.int .i64 0), (.sl .full [])]))), oN (.store 7 (.t 11) (.t 17)), oQ 12 (.mov (.t 18))])
 (.seq
 (.seq
 (.reg false [1, 3, 4, 11, 26] [
 oQ 19 (.mov (.t 12)), oQ 20 (.un .not (.t 19)), oQ 21 (.mov (.t 20)), oG 22 21 false (.load true 7 (.t 11)), oG 23 21 false (.mov (.t 4)), oG 24 21 false (.call (.c (.fn (.func 37) [] [])) [(.t 22), (.t 23)]), oG 25 21 false (.un .not (.t 24)), oQ 26 (.pick (.t 21) (.c (.bool true)) (.t 25))])
 (.cond (.t 26)
 (.seq
 (.reg false [10] [
 oQ 10 (.mov (.c (.int .i64 0)))])
 .ret)
 .skip))
 (.seq
 (.reg false [10] [
 oQ 27 (.load true 7 (.t 11)), oQ 28 (.mov (.t 1)), oQ 29 (.mov (.t 3)), oQ 30 (.mov (.t 4)), oQ 31 (.call (.c (.fn (.func 24) [] [])) [(.t 27), (.t 28), (.t 29), (.t 30)]), oQ 10 (.mov (.t 31))])
 .ret))))
theorem op_plan_Score (hn : vals.length ≤ 32) (h : SP Tryz.prog true vals bs rc_plan_Score [.slot 10] Q) : AM.Sem Tryz.prog 15 vals bs Q :=
  Sem.nrm (Sem.of (fn := Tryz.f15) (keeps := [(0, [1, 2, 3, 4, 5]), (1, [1, 3, 4, 11, 12]), (2, [1, 3, 4, 11, 26]), (3, [10]), (4, [10])]) (solo := []) Tryz.func15 rfl (by kernel_rfl) (by kernel_rfl) (by kernel_rfl) hn (run_gp h))

def rc_plan_Right : RC :=
 (.seq
 (.reg false [2, 3] [
 oQ 2 (.box (.t 0)), oQ 3 (.box (.t 1)), oQ 4 (.mov (.c (.bool false)))])
 (.seq
 (.seq
 (.reg true [2, 3, 16] [
 oQ 11 (.load true 2 (.t 2)), oQ 12 (.call (.c (.fn (.func 17) [] [])) [(.t 11)]), oQ 13 (.fptr 0 (.t 3)), oQ 14 (.load true 3 (.t 13)), oQ 15 (.call (.c (.fn (.func 21) [] [])) [(.t 12), (.t 14)]), oQ 16 (.un .not (.t 15))])
 (.cond (.t 16)
 (.seq
 (.reg false [4] [
 oQ 4 (.mov (.c (.bool false)))])
 .ret)
 .skip))
 (.seq
 (.reg false [3, 5] [
 oQ 18 (.load true 2 (.t 2)), oQ 19 (.fptr 0 (.t 3)), oQ 20 (.fptr 0 (.t 19)), oQ 21 (.load false 1 (.t 20)), oQ 22 (.call (.c (.fn (.func 22) [] [])) [(.t 18), (.t 21)]), oQ 17 (.mov (.t 22)), oQ 23 (.ext 0 (.t 17)), oQ 24 (.ext 1 (.t 17)), oQ 5 (.box (.c (.agg [(.str ⟨⟨[]⟩⟩), (.sl .full []), (.sl .full []), (.sl .full []), (.sl .full []), (.int .i64 0), (.sl .full [])]))), oN (.store 7 (.t 5) (.t 23)), oQ 6 (.mov (.t 24))])
 (.seq
 (.reg false [3, 5, 7] [
 oQ 25 (.fptr 0 (.t 3)), oQ 26 (.fptr 1 (.t 25)), oQ 27 (.load false 1 (.t 26)), oQ 28 (.bslice 1 [(.t 27)]), oQ 29 (.fptr 3 (.t 3)), oQ 30 (.load false 1 (.t 29)), oQ 31 (.append 1 (.t 28) (.t 30)), oQ 32 (.call (.c (.fn (.func 34) [] [])) [(.t 31)]), oQ 33 (.call (.c (.fn (.func 33) [] [])) [(.t 32)]), oQ 7 (.mov (.t 33))])
 (.seq
 (.seq
 (.reg false [3, 5, 7, 39] [
 oQ 34 (.mov (.t 7)), oQ 35 (.len false (.t 34)), oQ 36 (.fptr 6 (.t 5)), oQ 37 (.load false 1 (.t 36)), oQ 38 (.len false (.t 37)), oQ 39 (.bin .neq (.t 35) (.t 38))])
 (.cond (.t 39)
 (.seq
 (.reg false [4] [
 oQ 4 (.mov (.c (.bool false)))])
 .ret)
 .skip))
 (.seq
 (.seq
 (.reg false [3, 5, 40, 41, 42] [
 oQ 40 (.mov (.t 7)), oQ 41 (.len false (.t 40)), oQ 42 (.mov (.c (.int .i64 0)))])
 (.block 0
 (.loop
 (.seq
 (.reg false [3, 5, 40, 41, 42, 43] [
 oQ 43 (.bin .lss (.t 42) (.t 41))])
 (.seq
 (.cond (.t 43)
 .skip
 (.exit 0))
 (.seq
 (.block 1
 (.seq
 (.reg false [3, 5, 8, 9, 40, 41, 42] [
 oQ 44 (.mov (.t 42)), oQ 45 (.idx 1 (.t 40) (.t 42)), oQ 46 (.load false 1 (.t 45)), oQ 8 (.mov (.t 44)), oQ 9 (.mov (.t 46))])
 (.seq
 (.reg false [3, 5, 40, 41, 42, 49] [
 oQ 47 (.mov (.t 9)), oQ 48 (.mov (.t 8)), oQ 49 (.bin .neq (.t 47) (.t 48))])
 (.cond (.t 49)
 (.seq
 (.reg false [4] [
 oQ 4 (.mov (.c (.bool false)))])
 .ret)
 .skip))))
 (.reg false [3, 5, 40, 41, 42] [
 oQ 50 (.bin .add (.t 42) (.c (.int .i64 1))), oQ 42 (.mov (.t 50))])))))))
 (.seq
 (.reg false [3, 10] [
 oQ 51 (.load true 7 (.t 5)), oQ 52 (.fptr 0 (.t 3)), oQ 53 (.load true 3 (.t 52)), oQ 54 (.fptr 3 (.t 3)), oQ 55 (.load false 1 (.t 54)), oQ 56 (.call (.c (.fn (.func 25) [] [])) [(.t 51), (.t 53), (.t 55)]), oQ 10 (.box (.c (.agg [(.int .i64 0), (.int .i64 0), (.bool false), (.sl .full []), (.sl .full []), (.sl .full [])]))), oN (.store 6 (.t 10) (.t 56))])
 (.seq
 (.reg false [4] [
 oQ 57 (.fptr 4 (.t 3)), oQ 58 (.load false 1 (.t 57)), oQ 59 (.fptr 4 (.t 10)), oQ 60 (.load false 1 (.t 59)), oQ 61 (.call (.c (.fn (.func 35) [] [])) [(.t 58), (.t 60), (.c (.fn (.func 36) [] []))]), oQ 62 (.mov (.t 61)), oG 63 62 true (.fptr 5 (.t 3)), oG 64 62 true (.load false 1 (.t 63)), oG 65 62 true (.fptr 5 (.t 10)), oG 66 62 true (.load false 1 (.t 65)), oG 67 62 true (.call (.c (.fn (.func 35) [] [])) [(.t 64), (.t 66), (.c (.fn (.func 36) [] []))]), oQ 68 (.pick (.t 62) (.t 67) (.c (.bool false))), oQ 4 (.mov (.t 68))])
 .ret))))))))
theorem op_plan_Right (hn : vals.length ≤ 69) (h : SP Tryz.prog true vals bs rc_plan_Right [.slot 4] Q) : AM.Sem Tryz.prog 14 vals bs Q :=
  Sem.nrm (Sem.of (fn := Tryz.f14) (keeps := [(0, [2, 3]), (1, [2, 3, 16]), (2, [4]), (3, [3, 5]), (4, [3, 5, 7]), (5, [3, 5, 7, 39]), (6, [4]), (7, [3, 5, 40, 41, 42]), (8, [3, 5, 40, 41, 42, 43]), (9, [3, 5, 8, 9, 40, 41, 42]), (10, [3, 5, 40, 41, 42, 49]), (11, [4]), (12, [3, 5, 40, 41, 42]), (13, [3, 10]), (14, [4])]) (solo := []) Tryz.func14 rfl (by kernel_rfl) (by kernel_rfl) (by kernel_rfl) hn (run_gp h))

def rc_plan_Of : RC :=
 (.seq
 (.reg false [1, 3, 5, 6] [
 oQ 3 (.box (.t 0)), oQ 5 (.box (.t 2)), oQ 6 (.box (.c (.agg [(.int .i64 0), (.int .i64 0), (.bool false), (.sl .full []), (.sl .full []), (.sl .full [])])))])
 (.seq
 (.seq
 (.reg true [1, 3, 5, 6, 18] [
 oQ 14 (.load true 2 (.t 3)), oQ 15 (.call (.c (.fn (.func 17) [] [])) [(.t 14)]), oQ 16 (.load true 3 (.t 5)), oQ 17 (.call (.c (.fn (.func 21) [] [])) [(.t 15), (.t 16)]), oQ 18 (.un .not (.t 17))])
 (.cond (.t 18)
 (.seq
 (.reg false [6] [
 oQ 19 (.build [(.int .i64 0), (.int .i64 0), (.bool false), (.sl .full []), (.sl .full []), (.sl .full [])] []), oN (.store 6 (.t 6) (.t 19))])
 .ret)
 .skip))
 (.seq
 (.reg false [1, 5, 6, 7] [
 oQ 21 (.load true 2 (.t 3)), oQ 22 (.fptr 0 (.t 5)), oQ 23 (.load false 1 (.t 22)), oQ 24 (.call (.c (.fn (.func 22) [] [])) [(.t 21), (.t 23)]), oQ 20 (.mov (.t 24)), oQ 25 (.ext 0 (.t 20)), oQ 26 (.ext 1 (.t 20)), oQ 7 (.box (.c (.agg [(.str ⟨⟨[]⟩⟩), (.sl .full []), (.sl .full []), (.sl .full []), (.sl .full []), (.int .i64 0), (.sl .full [])]))), oN (.store 7 (.t 7) (.t 25)), oQ 8 (.mov (.t 26))])
 (.seq
 (.reg false [1, 5, 6, 7, 9] [
 oQ 27 (.fptr 1 (.t 5)), oQ 28 (.load false 1 (.t 27)), oQ 29 (.bslice 1 [(.t 28)]), oQ 9 (.mov (.t 29))])
 (.seq
 (.block 0
 (.loop
 (.seq
 (.seq
 (.reg false [1, 5, 6, 7, 9, 35] [
 oQ 30 (.more .see [(.t 9)]), oQ 31 (.len false (.t 30)), oQ 32 (.fptr 6 (.t 7)), oQ 33 (.load false 1 (.t 32)), oQ 34 (.len false (.t 33)), oQ 35 (.bin .lss (.t 31) (.t 34))])
 (.cond (.t 35)
 .skip
 (.exit 0)))
 (.block 1
 (.seq
 (.reg false [1, 5, 6, 7, 9, 10, 11] [
 oQ 10 (.mov (.c (.int .i64 (-1)))), oQ 11 (.mov (.c (.int .i64 (-1))))])
 (.seq
 (.seq
 (.reg false [1, 5, 6, 7, 9, 10, 11, 38, 39] [
 oQ 36 (.fptr 6 (.t 7)), oQ 37 (.load false 1 (.t 36)), oQ 38 (.len false (.t 37)), oQ 39 (.mov (.c (.int .i64 0)))])
 (.block 2
 (.loop
 (.seq
 (.reg false [1, 5, 6, 7, 9, 10, 11, 38, 39, 40] [
 oQ 40 (.bin .lss (.t 39) (.t 38))])
 (.seq
 (.cond (.t 40)
 .skip
 (.exit 2))
 (.seq
 (.block 3
 (.seq
 (.reg false [1, 5, 6, 7, 9, 10, 11, 12, 38, 39] [
 oQ 41 (.mov (.t 39)), oQ 12 (.mov (.t 41))])
 (.seq
 (.seq
 (.reg false [1, 5, 6, 7, 9, 10, 11, 12, 38, 39, 44] [
 oQ 42 (.more .see [(.t 9)]), oQ 43 (.mov (.t 12)), oQ 44 (.call (.c (.fn (.func 23) [] [])) [(.t 42), (.t 43)])])
 (.cond (.t 44)
 (.exit 3)
 .skip))
 (.seq
 (.reg false [1, 5, 6, 7, 9, 10, 11, 12, 13, 38, 39] [
 oQ 45 (.load true 7 (.t 7)), oQ 46 (.mov (.t 1)), oQ 47 (.more .see [(.t 9)]), oQ 48 (.mov (.t 12)), oQ 49 (.call (.c (.fn (.func 24) [] [])) [(.t 45), (.t 46), (.t 47), (.t 48)]), oQ 13 (.mov (.t 49))])
 (.seq
 (.reg false [1, 5, 6, 7, 9, 10, 11, 12, 13, 38, 39, 52] [
 oQ 50 (.mov (.t 13)), oQ 51 (.mov (.t 11)), oQ 52 (.bin .gtr (.t 50) (.t 51))])
 (.cond (.t 52)
 (.reg false [1, 5, 6, 7, 9, 10, 11, 38, 39] [
 oQ 53 (.mov (.t 12)), oQ 54 (.mov (.t 13)), oQ 10 (.mov (.t 53)), oQ 11 (.mov (.t 54))])
 .skip))))))
 (.reg false [1, 5, 6, 7, 9, 10, 11, 38, 39] [
 oQ 55 (.bin .add (.t 39) (.c (.int .i64 1))), oQ 39 (.mov (.t 55))])))))))
 (.reg false [1, 5, 6, 7, 9] [
 oQ 56 (.mov (.t 9)), oQ 57 (.mov (.t 10)), oQ 58 (.bslice 1 [(.t 57)]), oQ 59 (.append 1 (.t 56) (.t 58)), oQ 9 (.mov (.t 59))])))))))
 (.seq
 (.reg true [6] [
 oQ 60 (.load true 7 (.t 7)), oQ 61 (.load true 3 (.t 5)), oQ 62 (.take 9), oQ 63 (.slc 1 (.t 62) (some (.c (.int .i64 1))) none none), oQ 64 (.call (.c (.fn (.func 25) [] [])) [(.t 60), (.t 61), (.t 63)]), oN (.store 6 (.t 6) (.t 64))])
 .ret))))))
theorem op_plan_Of (hn : vals.length ≤ 65) (h : SP Tryz.prog true vals bs rc_plan_Of [.cell 6 true 6] Q) : AM.Sem Tryz.prog 9 vals bs Q :=
  Sem.nrm (Sem.of (fn := Tryz.f9) (keeps := [(0, [1, 3, 5, 6]), (1, [1, 3, 5, 6, 18]), (2, [6]), (3, [1, 5, 6, 7]), (4, [1, 5, 6, 7, 9]), (5, [1, 5, 6, 7, 9, 35]), (6, [1, 5, 6, 7, 9, 10, 11]), (7, [1, 5, 6, 7, 9, 10, 11, 38, 39]), (8, [1, 5, 6, 7, 9, 10, 11, 38, 39, 40]), (9, [1, 5, 6, 7, 9, 10, 11, 12, 38, 39]), (10, [1, 5, 6, 7, 9, 10, 11, 12, 38, 39, 44]), (11, [1, 5, 6, 7, 9, 10, 11, 12, 13, 38, 39]), (12, [1, 5, 6, 7, 9, 10, 11, 12, 13, 38, 39, 52]), (13, [1, 5, 6, 7, 9, 10, 11, 38, 39]), (14, [1, 5, 6, 7, 9, 10, 11, 38, 39]), (15, [1, 5, 6, 7, 9]), (16, [6]), (1000000, [30, 42, 47])]) (solo := []) Tryz.func9 rfl (by kernel_rfl) (by kernel_rfl) (by kernel_rfl) hn (run_gp h))

def rc_plan_rule_has : RC :=
 (.seq
 (.reg false [1, 2] [
 oQ 2 (.box (.t 0)), oQ 4 (.mov (.c (.bool false)))])
 (.seq
 (.reg false [4] [
 oQ 5 (.mov (.t 1)), oQ 6 (.bin .geq (.t 5) (.c (.int .i64 0))), oQ 7 (.mov (.t 6)), oG 8 7 true (.mov (.t 1)), oG 9 7 true (.fptr 6 (.t 2)), oG 10 7 true (.load false 1 (.t 9)), oG 11 7 true (.len false (.t 10)), oG 12 7 true (.bin .lss (.t 8) (.t 11)), oQ 13 (.pick (.t 7) (.t 12) (.c (.bool false))), oQ 4 (.mov (.t 13))])
 .ret))
theorem op_plan_rule_has (hn : vals.length ≤ 14) (h : SP Tryz.prog true vals bs rc_plan_rule_has [.slot 4] Q) : AM.Sem Tryz.prog 37 vals bs Q :=
  Sem.nrm (Sem.of (fn := Tryz.f37) (keeps := [(0, [1, 2]), (1, [4])]) (solo := []) Tryz.func37 rfl (by kernel_rfl) (by kernel_rfl) (by kernel_rfl) hn (run_gp h))

def rc_plan_rule_score : RC :=
 (.seq
 (.reg false [1, 2, 3, 4] [
 oQ 4 (.box (.t 0)), oQ 8 (.mov (.c (.int .i64 0)))])
 (.seq
 (.reg false [1, 3, 4, 9] [
 oQ 11 (.load true 7 (.t 4)), oQ 12 (.mov (.t 2)), oQ 13 (.mov (.t 3)), oQ 14 (.call (.c (.fn (.func 48) [] [])) [(.t 11), (.t 12), (.t 13)]), oQ 9 (.mov (.t 14))])
 (.seq
 (.reg false [1, 3, 4, 9, 10] [
 oQ 15 (.mov (.t 9)), oQ 16 (.len false (.t 15)), oQ 17 (.bin .mul (.c (.int .i64 10)) (.t 16)), oQ 10 (.mov (.t 17))])
 (.seq
 (.seq
 (.reg false [3, 4, 10, 26] [
 oQ 18 (.mov (.t 1)), oQ 19 (.fptr 6 (.t 4)), oQ 20 (.load false 1 (.t 19)), oQ 21 (.mov (.t 3)), oQ 22 (.idx 2 (.t 20) (.t 21)), oQ 23 (.fptr 0 (.t 22)), oQ 24 (.load false 1 (.t 23)), oQ 25 (.mov (.t 9)), oQ 26 (.call (.c (.fn (.func 49) [] [])) [(.t 18), (.t 24), (.t 25)])])
 (.cond (.t 26)
 (.reg false [3, 4, 10] [
 oQ 10 (.mov (.c (.int .i64 100)))])
 .skip))
 (.seq
 (.seq
 (.reg false [10, 29] [
 oQ 27 (.load true 7 (.t 4)), oQ 28 (.mov (.t 3)), oQ 29 (.call (.c (.fn (.func 50) [] [])) [(.t 27), (.t 28)])])
 (.cond (.t 29)
 (.reg false [10] [
 oQ 30 (.mov (.t 10)), oQ 31 (.bin .add (.t 30) (.c (.int .i64 1))), oQ 10 (.mov (.t 31))])
 .skip))
 (.seq
 (.reg false [8] [
 oQ 32 (.mov (.t 10)), oQ 8 (.mov (.t 32))])
 .ret))))))
theorem op_plan_rule_score (hn : vals.length ≤ 33) (h : SP Tryz.prog true vals bs rc_plan_rule_score [.slot 8] Q) : AM.Sem Tryz.prog 24 vals bs Q :=
  Sem.nrm (Sem.of (fn := Tryz.f24) (keeps := [(0, [1, 2, 3, 4]), (1, [1, 3, 4, 9]), (2, [1, 3, 4, 9, 10]), (3, [3, 4, 10, 26]), (4, [3, 4, 10]), (5, [10, 29]), (6, [10]), (7, [8])]) (solo := []) Tryz.func24 rfl (by kernel_rfl) (by kernel_rfl) (by kernel_rfl) hn (run_gp h))

def rc_plan_rule_known : RC :=
 (.seq
 (.reg false [1, 2, 3] [
 oQ 3 (.box (.t 0)), oQ 6 (.mov (.c (.sl .full [])))])
 (.seq
 (.reg false [1, 2, 3, 7] [
 oQ 19 (.eff .mkM []), oQ 7 (.mov (.t 19))])
 (.seq
 (.seq
 (.reg false [2, 3, 7, 20, 21, 22] [
 oQ 20 (.mov (.t 1)), oQ 21 (.len false (.t 20)), oQ 22 (.mov (.c (.int .i64 0)))])
 (.block 0
 (.loop
 (.seq
 (.reg false [2, 3, 7, 20, 21, 22, 23] [
 oQ 23 (.bin .lss (.t 22) (.t 21))])
 (.seq
 (.cond (.t 23)
 .skip
 (.exit 0))
 (.seq
 (.block 1
 (.seq
 (.reg false [2, 3, 7, 9, 20, 21, 22] [
 oQ 24 (.idx 1 (.t 20) (.t 22)), oQ 25 (.load false 1 (.t 24)), oQ 9 (.mov (.t 25))])
 (.seq
 (.reg false [2, 3, 7, 9, 20, 21, 22, 28] [
 oQ 26 (.load true 7 (.t 3)), oQ 27 (.mov (.t 9)), oQ 28 (.call (.c (.fn (.func 37) [] [])) [(.t 26), (.t 27)])])
 (.cond (.t 28)
 (.seq
 (.reg false [2, 3, 7, 20, 21, 22, 34, 35, 36] [
 oQ 29 (.fptr 6 (.t 3)), oQ 30 (.load false 1 (.t 29)), oQ 31 (.mov (.t 9)), oQ 32 (.idx 2 (.t 30) (.t 31)), oQ 33 (.load true 2 (.t 32)), oQ 34 (.call (.c (.fn (.func 66) [] [])) [(.t 33)]), oQ 35 (.len false (.t 34)), oQ 36 (.mov (.c (.int .i64 0)))])
 (.block 2
 (.loop
 (.seq
 (.reg false [2, 3, 7, 20, 21, 22, 34, 35, 36, 37] [
 oQ 37 (.bin .lss (.t 36) (.t 35))])
 (.seq
 (.cond (.t 37)
 .skip
 (.exit 2))
 (.seq
 (.block 3
 (.seq
 (.reg false [2, 3, 7, 11, 20, 21, 22, 34, 35, 36] [
 oQ 38 (.idx 1 (.t 34) (.t 36)), oQ 39 (.load false 1 (.t 38)), oQ 11 (.mov (.t 39))])
 (.reg false [2, 3, 7, 20, 21, 22, 34, 35, 36] [
 oQ 40 (.mov (.t 7)), oQ 41 (.mov (.t 11)), oQ 42 (.build [] []), oN (.eff .setM [(.t 40), (.t 41), (.t 42)])])))
 (.reg false [2, 3, 7, 20, 21, 22, 34, 35, 36] [
 oQ 43 (.bin .add (.t 36) (.c (.int .i64 1))), oQ 36 (.mov (.t 43))])))))))
 .skip))))
 (.reg false [2, 3, 7, 20, 21, 22] [
 oQ 44 (.bin .add (.t 22) (.c (.int .i64 1))), oQ 22 (.mov (.t 44))])))))))
 (.seq
 (.reg false [2, 3, 7, 12] [
 oQ 12 (.mov (.c (.sl .full [])))])
 (.seq
 .skip
 (.seq
 (.seq
 (.reg false [7, 12, 50, 51, 52] [
 oQ 45 (.fptr 6 (.t 3)), oQ 46 (.load false 1 (.t 45)), oQ 47 (.mov (.t 2)), oQ 48 (.idx 2 (.t 46) (.t 47)), oQ 49 (.fptr 1 (.t 48)), oQ 50 (.load false 1 (.t 49)), oQ 51 (.len false (.t 50)), oQ 52 (.mov (.c (.int .i64 0)))])
 (.block 4
 (.loop
 (.seq
 (.reg false [7, 12, 50, 51, 52, 53] [
 oQ 53 (.bin .lss (.t 52) (.t 51))])
 (.seq
 (.cond (.t 53)
 .skip
 (.exit 4))
 (.seq
 (.block 5
 (.seq
 (.reg false [7, 12, 13, 14, 50, 51, 52] [
 oQ 54 (.mov (.t 52)), oQ 55 (.idx 4 (.t 50) (.t 52)), oQ 56 (.load true 4 (.t 55)), oQ 14 (.box (.c (.agg [(.int .i64 0), (.int .i64 0), (.str ⟨⟨[]⟩⟩), (.sl .full [])]))), oQ 13 (.mov (.t 54)), oN (.store 4 (.t 14) (.t 56))])
 (.seq
 (.seq
 (.reg false [7, 12, 13, 50, 51, 52, 58, 59, 60] [
 oQ 57 (.load true 4 (.t 14)), oQ 58 (.call (.c (.fn (.func 67) [] [])) [(.t 57)]), oQ 59 (.len false (.t 58)), oQ 60 (.mov (.c (.int .i64 0)))])
 (.block 6
 (.loop
 (.seq
 (.reg false [7, 12, 13, 50, 51, 52, 58, 59, 60, 61] [
 oQ 61 (.bin .lss (.t 60) (.t 59))])
 (.seq
 (.cond (.t 61)
 .skip
 (.exit 6))
 (.seq
 (.block 7
 (.seq
 (.reg false [7, 12, 13, 16, 50, 51, 52, 58, 59, 60] [
 oQ 62 (.idx 1 (.t 58) (.t 60)), oQ 63 (.load false 1 (.t 62)), oQ 16 (.mov (.t 63))])
 (.seq
 (.reg false [7, 12, 13, 18, 50, 51, 52, 58, 59, 60] [
 oQ 65 (.mov (.t 7)), oQ 66 (.mov (.t 16)), oQ 67 (.eff (.getM true (.agg [])) [(.t 65), (.t 66)]), oQ 64 (.mov (.t 67)), oQ 68 (.ext 0 (.t 64)), oQ 69 (.ext 1 (.t 64)), oQ 17 (.box (.c (.agg []))), oN (.store 0 (.t 17) (.t 68)), oQ 18 (.mov (.t 69))])
 (.seq
 (.reg false [7, 12, 13, 50, 51, 52, 58, 59, 60, 71] [
 oQ 70 (.mov (.t 18)), oQ 71 (.un .not (.t 70))])
 (.cond (.t 71)
 (.exit 5)
 .skip)))))
 (.reg false [7, 12, 13, 50, 51, 52, 58, 59, 60] [
 oQ 72 (.bin .add (.t 60) (.c (.int .i64 1))), oQ 60 (.mov (.t 72))])))))))
 (.reg false [7, 12, 50, 51, 52] [
 oQ 73 (.mov (.t 12)), oQ 74 (.mov (.t 13)), oQ 75 (.bslice 1 [(.t 74)]), oQ 76 (.append 1 (.t 73) (.t 75)), oQ 12 (.mov (.t 76))]))))
 (.reg false [7, 12, 50, 51, 52] [
 oQ 77 (.bin .add (.t 52) (.c (.int .i64 1))), oQ 52 (.mov (.t 77))])))))))
 (.seq
 (.reg false [6] [
 oQ 78 (.mov (.t 12)), oQ 6 (.mov (.t 78))])
 .ret)))))))
theorem op_plan_rule_known (hn : vals.length ≤ 79) (h : SP Tryz.prog true vals bs rc_plan_rule_known [.slot 6] Q) : AM.Sem Tryz.prog 48 vals bs Q :=
  Sem.nrm (Sem.of (fn := Tryz.f48) (keeps := [(0, [1, 2, 3]), (1, [1, 2, 3, 7]), (2, [2, 3, 7, 20, 21, 22]), (3, [2, 3, 7, 20, 21, 22, 23]), (4, [2, 3, 7, 9, 20, 21, 22]), (5, [2, 3, 7, 9, 20, 21, 22, 28]), (6, [2, 3, 7, 20, 21, 22, 34, 35, 36]), (7, [2, 3, 7, 20, 21, 22, 34, 35, 36, 37]), (8, [2, 3, 7, 11, 20, 21, 22, 34, 35, 36]), (9, [2, 3, 7, 20, 21, 22, 34, 35, 36]), (10, [2, 3, 7, 20, 21, 22, 34, 35, 36]), (11, [2, 3, 7, 20, 21, 22]), (12, [2, 3, 7, 12]), (13, [7, 12, 50, 51, 52]), (14, [7, 12, 50, 51, 52, 53]), (15, [7, 12, 13, 14, 50, 51, 52]), (16, [7, 12, 13, 50, 51, 52, 58, 59, 60]), (17, [7, 12, 13, 50, 51, 52, 58, 59, 60, 61]), (18, [7, 12, 13, 16, 50, 51, 52, 58, 59, 60]), (19, [7, 12, 13, 18, 50, 51, 52, 58, 59, 60]), (20, [7, 12, 13, 50, 51, 52, 58, 59, 60, 71]), (21, [7, 12, 13, 50, 51, 52, 58, 59, 60]), (22, [7, 12, 50, 51, 52]), (23, [7, 12, 50, 51, 52]), (24, [6])]) (solo := []) Tryz.func48 rfl (by kernel_rfl) (by kernel_rfl) (by kernel_rfl) hn (run_gp h))

def rc_plan_rule_removes : RC :=
 (.seq
 (.reg false [1, 2] [
 oQ 2 (.box (.t 0)), oQ 4 (.mov (.c (.bool false)))])
 (.seq
 (.reg false [4] [
 oQ 5 (.mov (.t 1)), oQ 6 (.fptr 0 (.t 2)), oQ 7 (.fptr 1 (.t 6)), oQ 8 (.load false 1 (.t 7)), oQ 9 (.len false (.t 8)), oQ 10 (.bin .geq (.t 5) (.t 9)), oQ 4 (.mov (.t 10))])
 .ret))
theorem op_plan_rule_removes (hn : vals.length ≤ 11) (h : SP Tryz.prog true vals bs rc_plan_rule_removes [.slot 4] Q) : AM.Sem Tryz.prog 50 vals bs Q :=
  Sem.nrm (Sem.of (fn := Tryz.f50) (keeps := [(0, [1, 2]), (1, [4])]) (solo := []) Tryz.func50 rfl (by kernel_rfl) (by kernel_rfl) (by kernel_rfl) hn (run_gp h))

def rc_plan_rule_ordered : RC :=
 (.seq
 (.reg false [2, 3, 4, 6] [
 oQ 3 (.box (.t 0)), oQ 4 (.box (.t 1)), oQ 6 (.box (.c (.agg [(.int .i64 0), (.int .i64 0), (.bool false), (.sl .full []), (.sl .full []), (.sl .full [])])))])
 (.seq
 (.reg false [2, 3, 4, 6, 7] [
 oQ 11 (.load true 3 (.t 4)), oQ 12 (.mov (.t 2)), oQ 13 (.build [(.int .i64 0), (.int .i64 0), (.bool false), (.sl .full []), (.sl .full []), (.sl .full [])] [(0, 3, (.t 11)), (3, 1, (.t 12))]), oQ 7 (.box (.c (.agg [(.int .i64 0), (.int .i64 0), (.bool false), (.sl .full []), (.sl .full []), (.sl .full [])]))), oN (.store 6 (.t 7) (.t 13))])
 (.seq
 (.reg false [2, 3, 6, 7, 8] [
 oQ 14 (.fptr 1 (.t 4)), oQ 15 (.load false 1 (.t 14)), oQ 16 (.bslice 1 [(.t 15)]), oQ 8 (.mov (.t 16))])
 (.seq
 (.seq
 (.reg false [3, 6, 7, 8, 17, 18, 19] [
 oQ 17 (.mov (.t 2)), oQ 18 (.len false (.t 17)), oQ 19 (.mov (.c (.int .i64 0)))])
 (.block 0
 (.loop
 (.seq
 (.reg false [3, 6, 7, 8, 17, 18, 19, 20] [
 oQ 20 (.bin .lss (.t 19) (.t 18))])
 (.seq
 (.cond (.t 20)
 .skip
 (.exit 0))
 (.seq
 (.block 1
 (.seq
 (.reg false [3, 6, 7, 8, 10, 17, 18, 19] [
 oQ 21 (.idx 1 (.t 17) (.t 19)), oQ 22 (.load false 1 (.t 21)), oQ 10 (.mov (.t 22))])
 (.seq
 (.mult [3, 6, 7, 8, 10, 17, 18, 19] [
 (0, oQ 23 (.fptr 4 (.t 7))), (0, oQ 24 (.load false 1 (.t 23))), (0, oQ 25 (.load true 7 (.t 3))), (0, oQ 26 (.mov (.t 8))), (0, oQ 27 (.mov (.t 10))), (0, oQ 28 (.call (.c (.fn (.func 48) [] [])) [(.t 25), (.t 26), (.t 27)])), (0, oQ 29 (.bslice 1 [(.t 28)])), (1, oQ 30 (.eff (.appB 1) [(.t 24), (.t 29)])), (0, oQ 31 (.fptr 4 (.t 7))), (1, oN (.store 1 (.t 31) (.t 30)))])
 (.reg false [3, 6, 7, 8, 17, 18, 19] [
 oQ 32 (.mov (.t 8)), oQ 33 (.mov (.t 10)), oQ 34 (.bslice 1 [(.t 33)]), oQ 35 (.append 1 (.t 32) (.t 34)), oQ 8 (.mov (.t 35))]))))
 (.reg false [3, 6, 7, 8, 17, 18, 19] [
 oQ 36 (.bin .add (.t 19) (.c (.int .i64 1))), oQ 19 (.mov (.t 36))])))))))
 (.seq
 (.reg false [6, 7] [
 oQ 37 (.fptr 0 (.t 3)), oQ 38 (.load true 6 (.t 37)), oQ 39 (.mov (.t 8)), oQ 40 (.call (.c (.fn (.func 51) [] [])) [(.t 38), (.t 39)]), oQ 41 (.fptr 5 (.t 7)), oN (.store 1 (.t 41) (.t 40))])
 (.seq
 (.reg false [6] [
 oQ 42 (.load true 6 (.t 7)), oN (.store 6 (.t 6) (.t 42))])
 .ret))))))
theorem op_plan_rule_ordered (hn : vals.length ≤ 43) (h : SP Tryz.prog true vals bs rc_plan_rule_ordered [.cell 6 true 6] Q) : AM.Sem Tryz.prog 25 vals bs Q :=
  Sem.nrm (Sem.of (fn := Tryz.f25) (keeps := [(0, [2, 3, 4, 6]), (1, [2, 3, 4, 6, 7]), (2, [2, 3, 6, 7, 8]), (3, [3, 6, 7, 8, 17, 18, 19]), (4, [3, 6, 7, 8, 17, 18, 19, 20]), (5, [3, 6, 7, 8, 10, 17, 18, 19]), (6, [3, 6, 7, 8, 10, 17, 18, 19]), (7, [3, 6, 7, 8, 17, 18, 19]), (8, [3, 6, 7, 8, 17, 18, 19]), (9, [6, 7]), (10, [6]), (1000000, [30]), (2000006, [0, 1, 2, 3, 4, 5, 6, 7, 8, 9]), (3000006, [0, 0, 0, 0, 0, 0, 0, 1, 0, 1])]) (solo := []) Tryz.func25 rfl (by kernel_rfl) (by kernel_rfl) (by kernel_rfl) hn (run_gp h))

def rc_constraintref18_Place : RC :=
 (.seq
 (.reg false [1, 2] [
 oQ 2 (.box (.t 0)), oQ 4 (.mov (.c (.sl .full [])))])
 (.seq
 (.reg false [1, 2, 5] [
 oQ 9 (.load true 6 (.t 2)), oQ 10 (.call (.c (.fn (.func 76) [] [])) [(.t 9), (.c (.sl .full []))]), oQ 11 (.bslice 1 [(.t 10)]), oQ 5 (.mov (.t 11))])
 (.seq
 (.seq
 (.reg false [1, 2, 5, 6] [
 oQ 6 (.mov (.c (.int .i64 1)))])
 (.block 0
 (.loop
 (.seq
 (.seq
 (.reg false [1, 2, 5, 6, 15] [
 oQ 12 (.mov (.t 6)), oQ 13 (.mov (.t 1)), oQ 14 (.len false (.t 13)), oQ 15 (.bin .leq (.t 12) (.t 14))])
 (.cond (.t 15)
 .skip
 (.exit 0)))
 (.seq
 (.block 1
 (.seq
 (.reg false [1, 2, 5, 6, 7] [
 oQ 7 (.mov (.c (.sl .full [])))])
 (.seq
 (.seq
 (.reg false [1, 2, 5, 6, 7, 8] [
 oQ 8 (.mov (.c (.int .i64 0)))])
 (.block 2
 (.loop
 (.seq
 (.seq
 (.reg false [1, 2, 5, 6, 7, 8, 22] [
 oQ 18 (.mov (.t 8)), oQ 19 (.fptr 3 (.t 2)), oQ 20 (.load false 1 (.t 19)), oQ 21 (.len false (.t 20)), oQ 22 (.bin .lss (.t 18) (.t 21))])
 (.cond (.t 22)
 .skip
 (.exit 2)))
 (.seq
 (.block 3
 (.seq
 (.reg true [1, 2, 5, 6, 7, 8, 48] [
 oQ 25 (.load true 6 (.t 2)), oQ 26 (.take 1), oQ 27 (.take 6), oQ 28 (.slc 1 (.t 26) none (some (.t 27)) none), oQ 29 (.fptr 3 (.t 2)), oQ 30 (.load false 1 (.t 29)), oQ 31 (.take 8), oQ 32 (.idx 3 (.t 30) (.t 31)), oQ 33 (.load true 3 (.t 32)), oQ 34 (.call (.c (.fn (.func 77) [] [])) [(.t 25), (.t 28), (.t 33)]), oQ 35 (.take 34), oG 36 35 true (.load true 6 (.t 2)), oG 37 35 true (.take 1), oG 38 35 true (.take 6), oG 39 35 true (.bin .sub (.t 38) (.c (.int .i64 1))), oG 40 35 true (.slc 1 (.t 37) none (some (.t 39)) none), oG 41 35 true (.fptr 3 (.t 2)), oG 42 35 true (.load false 1 (.t 41)), oG 43 35 true (.take 8), oG 44 35 true (.idx 3 (.t 42) (.t 43)), oG 45 35 true (.load true 3 (.t 44)), oG 46 35 true (.call (.c (.fn (.func 77) [] [])) [(.t 36), (.t 40), (.t 45)]), oG 47 35 true (.un .not (.t 46)), oQ 48 (.pick (.t 35) (.t 47) (.c (.bool false)))])
 (.cond (.t 48)
 (.reg false [1, 2, 5, 6, 7, 8] [
 oQ 49 (.mov (.t 7)), oQ 50 (.mov (.t 8)), oQ 51 (.bslice 1 [(.t 50)]), oQ 52 (.append 1 (.t 49) (.t 51)), oQ 7 (.mov (.t 52))])
 .skip)))
 (.reg false [1, 2, 5, 6, 7, 8] [
 oQ 23 (.mov (.t 8)), oQ 24 (.bin .add (.t 23) (.c (.int .i64 1))), oQ 8 (.mov (.t 24))]))))))
 (.reg false [1, 2, 5, 6] [
 oQ 53 (.mov (.t 5)), oQ 54 (.mov (.t 7)), oQ 55 (.bslice 1 [(.t 54)]), oQ 56 (.append 1 (.t 53) (.t 55)), oQ 5 (.mov (.t 56))]))))
 (.reg false [1, 2, 5, 6] [
 oQ 16 (.mov (.t 6)), oQ 17 (.bin .add (.t 16) (.c (.int .i64 1))), oQ 6 (.mov (.t 17))]))))))
 (.seq
 (.reg false [4] [
 oQ 57 (.mov (.t 5)), oQ 4 (.mov (.t 57))])
 .ret))))
theorem op_constraintref18_Place (hn : vals.length ≤ 58) (h : SP Tryz.prog true vals bs rc_constraintref18_Place [.slot 4] Q) : AM.Sem Tryz.prog 55 vals bs Q :=
  Sem.nrm (Sem.of (fn := Tryz.f55) (keeps := [(0, [1, 2]), (1, [1, 2, 5]), (2, [1, 2, 5, 6]), (3, [1, 2, 5, 6, 15]), (5, [1, 2, 5, 6, 7]), (6, [1, 2, 5, 6, 7, 8]), (7, [1, 2, 5, 6, 7, 8, 22]), (9, [1, 2, 5, 6, 7, 8, 48]), (10, [1, 2, 5, 6, 7, 8]), (8, [1, 2, 5, 6, 7, 8]), (11, [1, 2, 5, 6]), (4, [1, 2, 5, 6]), (12, [4])]) (solo := []) Tryz.func55 rfl (by kernel_rfl) (by kernel_rfl) (by kernel_rfl) hn (run_gp h))

def rc_constraintref18_Ready : RC :=
 (.seq
 (.reg false [1, 2] [
 oQ 2 (.box (.t 0)), oQ 4 (.mov (.c (.sl .full [])))])
 (.seq
 (.reg false [1, 2, 5] [
 oQ 5 (.mov (.c (.sl .full [])))])
 (.seq
 (.seq
 (.reg false [1, 2, 5, 6] [
 oQ 6 (.mov (.c (.int .i64 0)))])
 (.block 0
 (.loop
 (.seq
 (.seq
 (.reg false [1, 2, 5, 6, 11] [
 oQ 7 (.mov (.t 6)), oQ 8 (.fptr 3 (.t 2)), oQ 9 (.load false 1 (.t 8)), oQ 10 (.len false (.t 9)), oQ 11 (.bin .lss (.t 7) (.t 10))])
 (.cond (.t 11)
 .skip
 (.exit 0)))
 (.seq
 (.block 1
 (.seq
 (.reg true [1, 2, 5, 6, 21] [
 oQ 14 (.load true 6 (.t 2)), oQ 15 (.take 1), oQ 16 (.fptr 3 (.t 2)), oQ 17 (.load false 1 (.t 16)), oQ 18 (.take 6), oQ 19 (.idx 3 (.t 17) (.t 18)), oQ 20 (.load true 3 (.t 19)), oQ 21 (.call (.c (.fn (.func 77) [] [])) [(.t 14), (.t 15), (.t 20)])])
 (.cond (.t 21)
 (.reg false [1, 2, 5, 6] [
 oQ 22 (.mov (.t 5)), oQ 23 (.mov (.t 6)), oQ 24 (.bslice 1 [(.t 23)]), oQ 25 (.append 1 (.t 22) (.t 24)), oQ 5 (.mov (.t 25))])
 .skip)))
 (.reg false [1, 2, 5, 6] [
 oQ 12 (.mov (.t 6)), oQ 13 (.bin .add (.t 12) (.c (.int .i64 1))), oQ 6 (.mov (.t 13))]))))))
 (.seq
 (.reg false [4] [
 oQ 26 (.mov (.t 5)), oQ 4 (.mov (.t 26))])
 .ret))))
theorem op_constraintref18_Ready (hn : vals.length ≤ 27) (h : SP Tryz.prog true vals bs rc_constraintref18_Ready [.slot 4] Q) : AM.Sem Tryz.prog 76 vals bs Q :=
  Sem.nrm (Sem.of (fn := Tryz.f76) (keeps := [(0, [1, 2]), (1, [1, 2, 5]), (2, [1, 2, 5, 6]), (3, [1, 2, 5, 6, 11]), (5, [1, 2, 5, 6, 21]), (6, [1, 2, 5, 6]), (4, [1, 2, 5, 6]), (7, [4])]) (solo := []) Tryz.func76 rfl (by kernel_rfl) (by kernel_rfl) (by kernel_rfl) hn (run_gp h))

def rc_constraintref18_ready : RC :=
 (.seq
 (.reg false [1, 3, 5] [
 oQ 3 (.box (.t 0)), oQ 5 (.box (.t 2)), oQ 6 (.mov (.c (.bool false)))])
 (.seq
 (.reg false [1, 5, 7] [
 oQ 15 (.load true 6 (.t 3)), oQ 16 (.call (.c (.fn (.func 52) [] [])) [(.t 15)]), oQ 7 (.mov (.t 16))])
 (.seq
 (.reg false [1, 5, 7, 8] [
 oQ 8 (.mov (.c (.sl .full [])))])
 (.seq
 (.seq
 (.reg false [1, 5, 7, 8, 9] [
 oQ 9 (.mov (.c (.int .i64 0)))])
 (.block 0
 (.loop
 (.seq
 (.seq
 (.reg false [1, 5, 7, 8, 9, 20] [
 oQ 17 (.mov (.t 9)), oQ 18 (.mov (.t 1)), oQ 19 (.len false (.t 18)), oQ 20 (.bin .lss (.t 17) (.t 19))])
 (.cond (.t 20)
 .skip
 (.exit 0)))
 (.seq
 (.block 1
 (.seq
 (.reg false [1, 5, 7, 8, 9, 36] [
 oQ 23 (.mov (.t 1)), oQ 24 (.mov (.t 9)), oQ 25 (.idx 1 (.t 23) (.t 24)), oQ 26 (.load false 1 (.t 25)), oQ 27 (.bin .geq (.t 26) (.c (.int .i64 0))), oQ 28 (.mov (.t 27)), oG 29 28 true (.mov (.t 1)), oG 30 28 true (.mov (.t 9)), oG 31 28 true (.idx 1 (.t 29) (.t 30)), oG 32 28 true (.load false 1 (.t 31)), oG 33 28 true (.mov (.t 7)), oG 34 28 true (.len false (.t 33)), oG 35 28 true (.bin .lss (.t 32) (.t 34)), oQ 36 (.pick (.t 28) (.t 35) (.c (.bool false)))])
 (.cond (.t 36)
 (.reg false [1, 5, 7, 8, 9] [
 oQ 37 (.mov (.t 8)), oQ 38 (.mov (.t 7)), oQ 39 (.mov (.t 1)), oQ 40 (.mov (.t 9)), oQ 41 (.idx 1 (.t 39) (.t 40)), oQ 42 (.load false 1 (.t 41)), oQ 43 (.idx 2 (.t 38) (.t 42)), oQ 44 (.fptr 1 (.t 43)), oQ 45 (.load false 1 (.t 44)), oQ 46 (.append 4 (.t 37) (.t 45)), oQ 8 (.mov (.t 46))])
 .skip)))
 (.reg false [1, 5, 7, 8, 9] [
 oQ 21 (.mov (.t 9)), oQ 22 (.bin .add (.t 21) (.c (.int .i64 1))), oQ 9 (.mov (.t 22))]))))))
 (.seq
 (.reg false [5, 10] [
 oQ 47 (.mov (.t 8)), oQ 48 (.call (.c (.fn (.func 72) [] [])) [(.t 47)]), oQ 10 (.mov (.t 48))])
 (.seq
 (.reg false [10, 11] [
 oQ 49 (.load true 3 (.t 5)), oQ 50 (.call (.c (.fn (.func 86) [] [])) [(.t 49)]), oQ 11 (.mov (.t 50))])
 (.seq
 (.seq
 (.reg false [10, 11, 12] [
 oQ 12 (.mov (.c (.int .i64 0)))])
 (.block 2
 (.loop
 (.seq
 (.seq
 (.reg false [10, 11, 12, 54] [
 oQ 51 (.mov (.t 12)), oQ 52 (.mov (.t 11)), oQ 53 (.len false (.t 52)), oQ 54 (.bin .lss (.t 51) (.t 53))])
 (.cond (.t 54)
 .skip
 (.exit 2)))
 (.seq
 (.block 3
 (.seq
 (.reg false [10, 11, 12, 13] [
 oQ 13 (.mov (.c (.bool false)))])
 (.seq
 (.seq
 (.reg false [10, 11, 12, 13, 14] [
 oQ 14 (.mov (.c (.int .i64 0)))])
 (.block 4
 (.loop
 (.seq
 (.seq
 (.reg false [10, 11, 12, 13, 14, 60] [
 oQ 57 (.mov (.t 14)), oQ 58 (.mov (.t 10)), oQ 59 (.len false (.t 58)), oQ 60 (.bin .lss (.t 57) (.t 59))])
 (.cond (.t 60)
 .skip
 (.exit 4)))
 (.seq
 (.block 5
 (.reg true [10, 11, 12, 13, 14] [
 oQ 63 (.take 13), oQ 64 (.take 63), oG 65 64 false (.take 10), oG 66 64 false (.take 14), oG 67 64 false (.idx 1 (.t 65) (.t 66)), oG 68 64 false (.load false 1 (.t 67)), oG 69 64 false (.take 11), oG 70 64 false (.take 12), oG 71 64 false (.idx 1 (.t 69) (.t 70)), oG 72 64 false (.load false 1 (.t 71)), oG 73 64 false (.bin .eql (.t 68) (.t 72)), oQ 74 (.pick (.t 64) (.c (.bool true)) (.t 73)), oQ 13 (.take 74)]))
 (.reg false [10, 11, 12, 13, 14] [
 oQ 61 (.mov (.t 14)), oQ 62 (.bin .add (.t 61) (.c (.int .i64 1))), oQ 14 (.mov (.t 62))]))))))
 (.seq
 (.reg false [10, 11, 12, 76] [
 oQ 75 (.mov (.t 13)), oQ 76 (.un .not (.t 75))])
 (.cond (.t 76)
 (.seq
 (.reg false [6] [
 oQ 6 (.mov (.c (.bool false)))])
 .ret)
 .skip)))))
 (.reg false [10, 11, 12] [
 oQ 55 (.mov (.t 12)), oQ 56 (.bin .add (.t 55) (.c (.int .i64 1))), oQ 12 (.mov (.t 56))]))))))
 (.seq
 (.reg false [6] [
 oQ 6 (.mov (.c (.bool true)))])
 .ret))))))))
theorem op_constraintref18_ready (hn : vals.length ≤ 77) (h : SP Tryz.prog true vals bs rc_constraintref18_ready [.slot 6] Q) : AM.Sem Tryz.prog 77 vals bs Q :=
  Sem.nrm (Sem.of (fn := Tryz.f77) (keeps := [(0, [1, 3, 5]), (1, [1, 5, 7]), (2, [1, 5, 7, 8]), (3, [1, 5, 7, 8, 9]), (4, [1, 5, 7, 8, 9, 20]), (6, [1, 5, 7, 8, 9, 36]), (7, [1, 5, 7, 8, 9]), (5, [1, 5, 7, 8, 9]), (8, [5, 10]), (9, [10, 11]), (10, [10, 11, 12]), (11, [10, 11, 12, 54]), (13, [10, 11, 12, 13]), (14, [10, 11, 12, 13, 14]), (15, [10, 11, 12, 13, 14, 60]), (17, [10, 11, 12, 13, 14]), (16, [10, 11, 12, 13, 14]), (18, [10, 11, 12, 76]), (19, [6]), (12, [10, 11, 12]), (20, [6])]) (solo := []) Tryz.func77 rfl (by kernel_rfl) (by kernel_rfl) (by kernel_rfl) hn (run_gp h))

def rc_constraintref28_Unique : RC :=
 (.seq
 (.reg false [0, 1, 2] [
 oQ 6 (.mov (.c (.bool false)))])
 (.seq
 (.seq
 (.reg false [0, 1, 2, 7] [
 oQ 7 (.mov (.c (.int .i64 0)))])
 (.block 0
 (.loop
 (.seq
 (.seq
 (.reg false [0, 1, 2, 7, 13] [
 oQ 10 (.mov (.t 7)), oQ 11 (.mov (.t 0)), oQ 12 (.len false (.t 11)), oQ 13 (.bin .lss (.t 10) (.t 12))])
 (.cond (.t 13)
 .skip
 (.exit 0)))
 (.seq
 (.block 1
 (.seq
 (.reg false [0, 1, 2, 7, 8] [
 oQ 16 (.mov (.t 0)), oQ 17 (.mov (.t 7)), oQ 18 (.idx 3 (.t 16) (.t 17)), oQ 19 (.fptr 0 (.t 18)), oQ 20 (.load false 1 (.t 19)), oQ 21 (.mov (.t 1)), oQ 22 (.bin .eql (.t 20) (.t 21)), oQ 8 (.mov (.t 22))])
 (.seq
 (.seq
 (.reg false [0, 1, 2, 7, 8, 9] [
 oQ 9 (.mov (.c (.int .i64 0)))])
 (.block 2
 (.loop
 (.seq
 (.seq
 (.reg false [0, 1, 2, 7, 8, 9, 30] [
 oQ 23 (.mov (.t 9)), oQ 24 (.mov (.t 0)), oQ 25 (.mov (.t 7)), oQ 26 (.idx 3 (.t 24) (.t 25)), oQ 27 (.fptr 2 (.t 26)), oQ 28 (.load false 1 (.t 27)), oQ 29 (.len false (.t 28)), oQ 30 (.bin .lss (.t 23) (.t 29))])
 (.cond (.t 30)
 .skip
 (.exit 2)))
 (.seq
 (.block 3
 (.reg false [0, 1, 2, 7, 8, 9] [
 oQ 33 (.mov (.t 8)), oQ 34 (.mov (.t 33)), oG 35 34 true (.mov (.t 2)), oG 36 34 true (.mov (.t 0)), oG 37 34 true (.mov (.t 7)), oG 38 34 true (.idx 3 (.t 36) (.t 37)), oG 39 34 true (.fptr 2 (.t 38)), oG 40 34 true (.load false 1 (.t 39)), oG 41 34 true (.mov (.t 9)), oG 42 34 true (.idx 1 (.t 40) (.t 41)), oG 43 34 true (.load false 1 (.t 42)), oG 44 34 true (.call (.c (.fn (.func 75) [] [])) [(.t 35), (.t 43)]), oQ 45 (.pick (.t 34) (.t 44) (.c (.bool false))), oQ 8 (.mov (.t 45))]))
 (.reg false [0, 1, 2, 7, 8, 9] [
 oQ 31 (.mov (.t 9)), oQ 32 (.bin .add (.t 31) (.c (.int .i64 1))), oQ 9 (.mov (.t 32))]))))))
 (.seq
 (.reg false [0, 1, 2, 7, 46] [
 oQ 46 (.mov (.t 8))])
 (.cond (.t 46)
 (.seq
 (.reg false [6] [
 oQ 6 (.mov (.c (.bool true)))])
 .ret)
 .skip)))))
 (.reg false [0, 1, 2, 7] [
 oQ 14 (.mov (.t 7)), oQ 15 (.bin .add (.t 14) (.c (.int .i64 1))), oQ 7 (.mov (.t 15))]))))))
 (.seq
 (.reg false [6] [
 oQ 6 (.mov (.c (.bool false)))])
 .ret)))
theorem op_constraintref28_Unique (hn : vals.length ≤ 47) (h : SP Tryz.prog true vals bs rc_constraintref28_Unique [.slot 6] Q) : AM.Sem Tryz.prog 54 vals bs Q :=
  Sem.nrm (Sem.of (fn := Tryz.f54) (keeps := [(0, [0, 1, 2]), (1, [0, 1, 2, 7]), (2, [0, 1, 2, 7, 13]), (4, [0, 1, 2, 7, 8]), (5, [0, 1, 2, 7, 8, 9]), (6, [0, 1, 2, 7, 8, 9, 30]), (8, [0, 1, 2, 7, 8, 9]), (7, [0, 1, 2, 7, 8, 9]), (9, [0, 1, 2, 7, 46]), (10, [6]), (3, [0, 1, 2, 7]), (11, [6])]) (solo := []) Tryz.func54 rfl (by kernel_rfl) (by kernel_rfl) (by kernel_rfl) hn (run_gp h))

def rc_constraintref28_in : RC :=
 (.seq
 (.reg false [0, 1] [
 oQ 4 (.mov (.c (.bool false)))])
 (.seq
 (.seq
 (.reg false [0, 1, 5] [
 oQ 5 (.mov (.c (.int .i64 0)))])
 (.block 0
 (.loop
 (.seq
 (.seq
 (.reg false [0, 1, 5, 9] [
 oQ 6 (.mov (.t 5)), oQ 7 (.mov (.t 0)), oQ 8 (.len false (.t 7)), oQ 9 (.bin .lss (.t 6) (.t 8))])
 (.cond (.t 9)
 .skip
 (.exit 0)))
 (.seq
 (.block 1
 (.seq
 (.reg false [0, 1, 5, 17] [
 oQ 12 (.mov (.t 0)), oQ 13 (.mov (.t 5)), oQ 14 (.idx 1 (.t 12) (.t 13)), oQ 15 (.load false 1 (.t 14)), oQ 16 (.mov (.t 1)), oQ 17 (.bin .eql (.t 15) (.t 16))])
 (.cond (.t 17)
 (.seq
 (.reg false [4] [
 oQ 4 (.mov (.c (.bool true)))])
 .ret)
 .skip)))
 (.reg false [0, 1, 5] [
 oQ 10 (.mov (.t 5)), oQ 11 (.bin .add (.t 10) (.c (.int .i64 1))), oQ 5 (.mov (.t 11))]))))))
 (.seq
 (.reg false [4] [
 oQ 4 (.mov (.c (.bool false)))])
 .ret)))
theorem op_constraintref28_in (hn : vals.length ≤ 18) (h : SP Tryz.prog true vals bs rc_constraintref28_in [.slot 4] Q) : AM.Sem Tryz.prog 75 vals bs Q :=
  Sem.nrm (Sem.of (fn := Tryz.f75) (keeps := [(0, [0, 1]), (1, [0, 1, 5]), (2, [0, 1, 5, 9]), (4, [0, 1, 5, 17]), (5, [4]), (3, [0, 1, 5]), (6, [4])]) (solo := []) Tryz.func75 rfl (by kernel_rfl) (by kernel_rfl) (by kernel_rfl) hn (run_gp h))

def rc_constraintref29_Score : RC :=
 (.seq
 (.reg false [1, 2, 3, 4, 5] [
 oQ 5 (.box (.t 0)), oQ 10 (.mov (.c (.int .i64 0)))])
 (.seq
 (.seq
 (.reg false [1, 2, 3, 4, 5, 23] [
 oQ 15 (.mov (.t 2)), oQ 16 (.bin .lss (.t 15) (.c (.int .i64 0))), oQ 17 (.mov (.t 16)), oG 18 17 false (.mov (.t 2)), oG 19 17 false (.fptr 1 (.t 5)), oG 20 17 false (.load false 1 (.t 19)), oG 21 17 false (.len false (.t 20)), oG 22 17 false (.bin .geq (.t 18) (.t 21)), oQ 23 (.pick (.t 17) (.c (.bool true)) (.t 22))])
 (.cond (.t 23)
 (.seq
 (.reg false [10] [
 oQ 10 (.mov (.c (.int .i64 0)))])
 .ret)
 .skip))
 (.seq
 (.reg false [1, 3, 4, 11] [
 oQ 24 (.fptr 1 (.t 5)), oQ 25 (.load false 1 (.t 24)), oQ 26 (.mov (.t 2)), oQ 27 (.idx 6 (.t 25) (.t 26)), oQ 28 (.load true 6 (.t 27)), oQ 11 (.box (.c (.agg [(.str ⟨⟨[]⟩⟩), (.sl .full []), (.sl .full []), (.sl .full []), (.sl .full []), (.int .i64 0)]))), oN (.store 6 (.t 11) (.t 28))])
 (.seq
 (.reg false [1, 3, 4, 11, 12] [
 oQ 29 (.load true 6 (.t 11)), oQ 30 (.call (.c (.fn (.func 52) [] [])) [(.t 29)]), oQ 12 (.mov (.t 30))])
 (.seq
 (.seq
 (.reg false [1, 3, 4, 11, 12, 38] [
 oQ 31 (.mov (.t 4)), oQ 32 (.bin .lss (.t 31) (.c (.int .i64 0))), oQ 33 (.mov (.t 32)), oG 34 33 false (.mov (.t 4)), oG 35 33 false (.mov (.t 12)), oG 36 33 false (.len false (.t 35)), oG 37 33 false (.bin .geq (.t 34) (.t 36)), oQ 38 (.pick (.t 33) (.c (.bool true)) (.t 37))])
 (.cond (.t 38)
 (.seq
 (.reg false [10] [
 oQ 10 (.mov (.c (.int .i64 0)))])
 .ret)
 .skip))
 (.seq
 (.reg false [1, 4, 11, 12, 13] [
 oQ 39 (.load true 6 (.t 11)), oQ 40 (.mov (.t 3)), oQ 41 (.mov (.t 4)), oQ 42 (.call (.c (.fn (.func 53) [] [])) [(.t 39), (.t 40), (.t 41)]), oQ 13 (.mov (.t 42))])
 (.seq
 (.reg false [1, 4, 11, 12, 13, 14] [
 oQ 43 (.mov (.t 13)), oQ 44 (.len false (.t 43)), oQ 45 (.bin .mul (.c (.int .i64 10)) (.t 44)), oQ 14 (.mov (.t 45))])
 (.seq
 (.seq
 (.reg false [4, 11, 14, 53] [
 oQ 46 (.mov (.t 1)), oQ 47 (.mov (.t 12)), oQ 48 (.mov (.t 4)), oQ 49 (.idx 2 (.t 47) (.t 48)), oQ 50 (.fptr 0 (.t 49)), oQ 51 (.load false 1 (.t 50)), oQ 52 (.mov (.t 13)), oQ 53 (.call (.c (.fn (.func 54) [] [])) [(.t 46), (.t 51), (.t 52)])])
 (.cond (.t 53)
 (.reg false [4, 11, 14] [
 oQ 14 (.mov (.c (.int .i64 100)))])
 .skip))
 (.seq
 (.seq
 (.reg false [14, 58] [
 oQ 54 (.mov (.t 4)), oQ 55 (.fptr 1 (.t 11)), oQ 56 (.load false 1 (.t 55)), oQ 57 (.len false (.t 56)), oQ 58 (.bin .geq (.t 54) (.t 57))])
 (.cond (.t 58)
 (.reg false [14] [
 oQ 59 (.mov (.t 14)), oQ 60 (.bin .add (.t 59) (.c (.int .i64 1))), oQ 14 (.mov (.t 60))])
 .skip))
 (.seq
 (.reg false [10] [
 oQ 61 (.mov (.t 14)), oQ 10 (.mov (.t 61))])
 .ret))))))))))
theorem op_constraintref29_Score (hn : vals.length ≤ 62) (h : SP Tryz.prog true vals bs rc_constraintref29_Score [.slot 10] Q) : AM.Sem Tryz.prog 28 vals bs Q :=
  Sem.nrm (Sem.of (fn := Tryz.f28) (keeps := [(0, [1, 2, 3, 4, 5]), (1, [1, 2, 3, 4, 5, 23]), (2, [10]), (3, [1, 3, 4, 11]), (4, [1, 3, 4, 11, 12]), (5, [1, 3, 4, 11, 12, 38]), (6, [10]), (7, [1, 4, 11, 12, 13]), (8, [1, 4, 11, 12, 13, 14]), (9, [4, 11, 14, 53]), (10, [4, 11, 14]), (11, [14, 58]), (12, [14]), (13, [10])]) (solo := []) Tryz.func28 rfl (by kernel_rfl) (by kernel_rfl) (by kernel_rfl) hn (run_gp h))

def rc_constraintref29_Known : RC :=
 (.seq
 (.reg false [1, 2, 3] [
 oQ 3 (.box (.t 0)), oQ 6 (.mov (.c (.sl .full [])))])
 (.seq
 (.reg false [1, 2, 7] [
 oQ 13 (.load true 6 (.t 3)), oQ 14 (.call (.c (.fn (.func 52) [] [])) [(.t 13)]), oQ 7 (.mov (.t 14))])
 (.seq
 (.reg false [1, 2, 7, 8] [
 oQ 8 (.mov (.c (.sl .full [])))])
 (.seq
 (.seq
 (.reg false [1, 2, 7, 8, 9] [
 oQ 9 (.mov (.c (.int .i64 0)))])
 (.block 0
 (.loop
 (.seq
 (.seq
 (.reg false [1, 2, 7, 8, 9, 18] [
 oQ 15 (.mov (.t 9)), oQ 16 (.mov (.t 1)), oQ 17 (.len false (.t 16)), oQ 18 (.bin .lss (.t 15) (.t 17))])
 (.cond (.t 18)
 .skip
 (.exit 0)))
 (.seq
 (.block 1
 (.seq
 (.reg false [1, 2, 7, 8, 9, 34] [
 oQ 21 (.mov (.t 1)), oQ 22 (.mov (.t 9)), oQ 23 (.idx 1 (.t 21) (.t 22)), oQ 24 (.load false 1 (.t 23)), oQ 25 (.bin .geq (.t 24) (.c (.int .i64 0))), oQ 26 (.mov (.t 25)), oG 27 26 true (.mov (.t 1)), oG 28 26 true (.mov (.t 9)), oG 29 26 true (.idx 1 (.t 27) (.t 28)), oG 30 26 true (.load false 1 (.t 29)), oG 31 26 true (.mov (.t 7)), oG 32 26 true (.len false (.t 31)), oG 33 26 true (.bin .lss (.t 30) (.t 32)), oQ 34 (.pick (.t 26) (.t 33) (.c (.bool false)))])
 (.cond (.t 34)
 (.reg false [1, 2, 7, 8, 9] [
 oQ 35 (.mov (.t 8)), oQ 36 (.mov (.t 7)), oQ 37 (.mov (.t 1)), oQ 38 (.mov (.t 9)), oQ 39 (.idx 1 (.t 37) (.t 38)), oQ 40 (.load false 1 (.t 39)), oQ 41 (.idx 2 (.t 36) (.t 40)), oQ 42 (.fptr 1 (.t 41)), oQ 43 (.load false 1 (.t 42)), oQ 44 (.append 4 (.t 35) (.t 43)), oQ 8 (.mov (.t 44))])
 .skip)))
 (.reg false [1, 2, 7, 8, 9] [
 oQ 19 (.mov (.t 9)), oQ 20 (.bin .add (.t 19) (.c (.int .i64 1))), oQ 9 (.mov (.t 20))]))))))
 (.seq
 (.reg false [2, 7, 10] [
 oQ 45 (.mov (.t 8)), oQ 46 (.call (.c (.fn (.func 72) [] [])) [(.t 45)]), oQ 10 (.mov (.t 46))])
 (.seq
 (.reg false [2, 7, 10, 11] [
 oQ 11 (.mov (.c (.sl .full [])))])
 (.seq
 (.seq
 (.reg false [2, 7, 10, 11, 12] [
 oQ 12 (.mov (.c (.int .i64 0)))])
 (.block 2
 (.loop
 (.seq
 (.seq
 (.reg false [2, 7, 10, 11, 12, 54] [
 oQ 47 (.mov (.t 12)), oQ 48 (.mov (.t 7)), oQ 49 (.mov (.t 2)), oQ 50 (.idx 2 (.t 48) (.t 49)), oQ 51 (.fptr 1 (.t 50)), oQ 52 (.load false 1 (.t 51)), oQ 53 (.len false (.t 52)), oQ 54 (.bin .lss (.t 47) (.t 53))])
 (.cond (.t 54)
 .skip
 (.exit 2)))
 (.seq
 (.block 3
 (.seq
 (.reg false [2, 7, 10, 11, 12, 67] [
 oQ 57 (.mov (.t 7)), oQ 58 (.mov (.t 2)), oQ 59 (.idx 2 (.t 57) (.t 58)), oQ 60 (.fptr 1 (.t 59)), oQ 61 (.load false 1 (.t 60)), oQ 62 (.mov (.t 12)), oQ 63 (.idx 4 (.t 61) (.t 62)), oQ 64 (.load true 4 (.t 63)), oQ 65 (.call (.c (.fn (.func 74) [] [])) [(.t 64)]), oQ 66 (.mov (.t 10)), oQ 67 (.call (.c (.fn (.func 73) [] [])) [(.t 65), (.t 66)])])
 (.cond (.t 67)
 (.reg false [2, 7, 10, 11, 12] [
 oQ 68 (.mov (.t 11)), oQ 69 (.mov (.t 12)), oQ 70 (.bslice 1 [(.t 69)]), oQ 71 (.append 1 (.t 68) (.t 70)), oQ 11 (.mov (.t 71))])
 .skip)))
 (.reg false [2, 7, 10, 11, 12] [
 oQ 55 (.mov (.t 12)), oQ 56 (.bin .add (.t 55) (.c (.int .i64 1))), oQ 12 (.mov (.t 56))]))))))
 (.seq
 (.reg false [6] [
 oQ 72 (.mov (.t 11)), oQ 6 (.mov (.t 72))])
 .ret))))))))
theorem op_constraintref29_Known (hn : vals.length ≤ 73) (h : SP Tryz.prog true vals bs rc_constraintref29_Known [.slot 6] Q) : AM.Sem Tryz.prog 53 vals bs Q :=
  Sem.nrm (Sem.of (fn := Tryz.f53) (keeps := [(0, [1, 2, 3]), (1, [1, 2, 7]), (2, [1, 2, 7, 8]), (3, [1, 2, 7, 8, 9]), (4, [1, 2, 7, 8, 9, 18]), (6, [1, 2, 7, 8, 9, 34]), (7, [1, 2, 7, 8, 9]), (5, [1, 2, 7, 8, 9]), (8, [2, 7, 10]), (9, [2, 7, 10, 11]), (10, [2, 7, 10, 11, 12]), (11, [2, 7, 10, 11, 12, 54]), (13, [2, 7, 10, 11, 12, 67]), (14, [2, 7, 10, 11, 12]), (12, [2, 7, 10, 11, 12]), (15, [6])]) (solo := []) Tryz.func53 rfl (by kernel_rfl) (by kernel_rfl) (by kernel_rfl) hn (run_gp h))

def rc_constraintref29_isOcc : RC :=
 (.seq
 (.reg false [2, 3] [
 oQ 2 (.box (.t 0)), oQ 3 (.box (.t 1)), oQ 4 (.mov (.c (.bool false)))])
 (.seq
 (.reg false [3, 5] [
 oQ 7 (.load true 2 (.t 2)), oQ 8 (.call (.c (.fn (.func 19) [] [])) [(.t 7)]), oQ 5 (.mov (.t 8))])
 (.seq
 (.seq
 (.reg false [3, 5, 6] [
 oQ 6 (.mov (.c (.int .i64 0)))])
 (.block 0
 (.loop
 (.seq
 (.seq
 (.reg false [3, 5, 6, 12] [
 oQ 9 (.mov (.t 6)), oQ 10 (.mov (.t 5)), oQ 11 (.len false (.t 10)), oQ 12 (.bin .lss (.t 9) (.t 11))])
 (.cond (.t 12)
 .skip
 (.exit 0)))
 (.seq
 (.block 1
 (.seq
 (.reg true [3, 5, 6, 20] [
 oQ 15 (.take 5), oQ 16 (.take 6), oQ 17 (.idx 3 (.t 15) (.t 16)), oQ 18 (.load true 3 (.t 17)), oQ 19 (.load true 3 (.t 3)), oQ 20 (.more (.eqA false [.i, .i, .b]) [(.t 18), (.t 19)])])
 (.cond (.t 20)
 (.seq
 (.reg false [4] [
 oQ 4 (.mov (.c (.bool true)))])
 .ret)
 .skip)))
 (.reg false [3, 5, 6] [
 oQ 13 (.mov (.t 6)), oQ 14 (.bin .add (.t 13) (.c (.int .i64 1))), oQ 6 (.mov (.t 14))]))))))
 (.seq
 (.reg false [4] [
 oQ 4 (.mov (.c (.bool false)))])
 .ret))))
theorem op_constraintref29_isOcc (hn : vals.length ≤ 21) (h : SP Tryz.prog true vals bs rc_constraintref29_isOcc [.slot 4] Q) : AM.Sem Tryz.prog 26 vals bs Q :=
  Sem.nrm (Sem.of (fn := Tryz.f26) (keeps := [(0, [2, 3]), (1, [3, 5]), (2, [3, 5, 6]), (3, [3, 5, 6, 12]), (5, [3, 5, 6, 20]), (6, [4]), (4, [3, 5, 6]), (7, [4])]) (solo := []) Tryz.func26 rfl (by kernel_rfl) (by kernel_rfl) (by kernel_rfl) hn (run_gp h))

def rc_constraintref29_subset : RC :=
 (.seq
 (.reg false [0, 1] [
 oQ 4 (.mov (.c (.bool false)))])
 (.seq
 (.seq
 (.reg false [0, 1, 5] [
 oQ 5 (.mov (.c (.int .i64 0)))])
 (.block 0
 (.loop
 (.seq
 (.seq
 (.reg false [0, 1, 5, 11] [
 oQ 8 (.mov (.t 5)), oQ 9 (.mov (.t 0)), oQ 10 (.len false (.t 9)), oQ 11 (.bin .lss (.t 8) (.t 10))])
 (.cond (.t 11)
 .skip
 (.exit 0)))
 (.seq
 (.block 1
 (.seq
 (.reg false [0, 1, 5, 6] [
 oQ 6 (.mov (.c (.bool false)))])
 (.seq
 (.seq
 (.reg false [0, 1, 5, 6, 7] [
 oQ 7 (.mov (.c (.int .i64 0)))])
 (.block 2
 (.loop
 (.seq
 (.seq
 (.reg false [0, 1, 5, 6, 7, 17] [
 oQ 14 (.mov (.t 7)), oQ 15 (.mov (.t 1)), oQ 16 (.len false (.t 15)), oQ 17 (.bin .lss (.t 14) (.t 16))])
 (.cond (.t 17)
 .skip
 (.exit 2)))
 (.seq
 (.block 3
 (.reg true [0, 1, 5, 6, 7] [
 oQ 20 (.take 6), oQ 21 (.take 20), oG 22 21 false (.take 1), oG 23 21 false (.take 7), oG 24 21 false (.idx 1 (.t 22) (.t 23)), oG 25 21 false (.load false 1 (.t 24)), oG 26 21 false (.take 0), oG 27 21 false (.take 5), oG 28 21 false (.idx 1 (.t 26) (.t 27)), oG 29 21 false (.load false 1 (.t 28)), oG 30 21 false (.bin .eql (.t 25) (.t 29)), oQ 31 (.pick (.t 21) (.c (.bool true)) (.t 30)), oQ 6 (.take 31)]))
 (.reg false [0, 1, 5, 6, 7] [
 oQ 18 (.mov (.t 7)), oQ 19 (.bin .add (.t 18) (.c (.int .i64 1))), oQ 7 (.mov (.t 19))]))))))
 (.seq
 (.reg false [0, 1, 5, 33] [
 oQ 32 (.mov (.t 6)), oQ 33 (.un .not (.t 32))])
 (.cond (.t 33)
 (.seq
 (.reg false [4] [
 oQ 4 (.mov (.c (.bool false)))])
 .ret)
 .skip)))))
 (.reg false [0, 1, 5] [
 oQ 12 (.mov (.t 5)), oQ 13 (.bin .add (.t 12) (.c (.int .i64 1))), oQ 5 (.mov (.t 13))]))))))
 (.seq
 (.reg false [4] [
 oQ 4 (.mov (.c (.bool true)))])
 .ret)))
theorem op_constraintref29_subset (hn : vals.length ≤ 34) (h : SP Tryz.prog true vals bs rc_constraintref29_subset [.slot 4] Q) : AM.Sem Tryz.prog 73 vals bs Q :=
  Sem.nrm (Sem.of (fn := Tryz.f73) (keeps := [(0, [0, 1]), (1, [0, 1, 5]), (2, [0, 1, 5, 11]), (4, [0, 1, 5, 6]), (5, [0, 1, 5, 6, 7]), (6, [0, 1, 5, 6, 7, 17]), (8, [0, 1, 5, 6, 7]), (7, [0, 1, 5, 6, 7]), (9, [0, 1, 5, 33]), (10, [4]), (3, [0, 1, 5]), (11, [4])]) (solo := []) Tryz.func73 rfl (by kernel_rfl) (by kernel_rfl) (by kernel_rfl) hn (run_gp h))

def rc_constraintref29_Same : RC :=
 (.seq
 (.reg false [2, 3] [
 oQ 2 (.box (.t 0)), oQ 3 (.box (.t 1)), oQ 4 (.mov (.c (.bool false)))])
 (.seq
 (.reg false [4] [
 oQ 5 (.fptr 0 (.t 2)), oQ 6 (.load true 3 (.t 5)), oQ 7 (.fptr 0 (.t 3)), oQ 8 (.load true 3 (.t 7)), oQ 9 (.more (.eqA false [.i, .i, .b]) [(.t 6), (.t 8)]), oQ 10 (.mov (.t 9)), oG 11 10 true (.fptr 3 (.t 2)), oG 12 10 true (.load false 1 (.t 11)), oG 13 10 true (.fptr 3 (.t 3)), oG 14 10 true (.load false 1 (.t 13)), oG 15 10 true (.call (.c (.fn (.func 13) [] [])) [(.t 12), (.t 14)]), oQ 16 (.pick (.t 10) (.t 15) (.c (.bool false))), oQ 17 (.mov (.t 16)), oG 18 17 true (.fptr 4 (.t 2)), oG 19 17 true (.load false 1 (.t 18)), oG 20 17 true (.fptr 4 (.t 3)), oG 21 17 true (.load false 1 (.t 20)), oG 22 17 true (.call (.c (.fn (.func 20) [] [])) [(.t 19), (.t 21)]), oQ 23 (.pick (.t 17) (.t 22) (.c (.bool false))), oQ 24 (.mov (.t 23)), oG 25 24 true (.fptr 5 (.t 2)), oG 26 24 true (.load false 1 (.t 25)), oG 27 24 true (.fptr 5 (.t 3)), oG 28 24 true (.load false 1 (.t 27)), oG 29 24 true (.call (.c (.fn (.func 20) [] [])) [(.t 26), (.t 28)]), oQ 30 (.pick (.t 24) (.t 29) (.c (.bool false))), oQ 4 (.mov (.t 30))])
 .ret))
theorem op_constraintref29_Same (hn : vals.length ≤ 31) (h : SP Tryz.prog true vals bs rc_constraintref29_Same [.slot 4] Q) : AM.Sem Tryz.prog 8 vals bs Q :=
  Sem.nrm (Sem.of (fn := Tryz.f8) (keeps := [(0, [2, 3]), (1, [4])]) (solo := []) Tryz.func8 rfl (by kernel_rfl) (by kernel_rfl) (by kernel_rfl) hn (run_gp h))

def rc_constraintref29_lists : RC :=
 (.seq
 (.reg false [0, 1] [
 oQ 4 (.mov (.c (.bool false)))])
 (.seq
 (.seq
 (.reg false [0, 1, 10] [
 oQ 6 (.mov (.t 0)), oQ 7 (.len false (.t 6)), oQ 8 (.mov (.t 1)), oQ 9 (.len false (.t 8)), oQ 10 (.bin .neq (.t 7) (.t 9))])
 (.cond (.t 10)
 (.seq
 (.reg false [4] [
 oQ 4 (.mov (.c (.bool false)))])
 .ret)
 .skip))
 (.seq
 (.seq
 (.reg false [0, 1, 5] [
 oQ 5 (.mov (.c (.int .i64 0)))])
 (.block 0
 (.loop
 (.seq
 (.seq
 (.reg false [0, 1, 5, 14] [
 oQ 11 (.mov (.t 5)), oQ 12 (.mov (.t 0)), oQ 13 (.len false (.t 12)), oQ 14 (.bin .lss (.t 11) (.t 13))])
 (.cond (.t 14)
 .skip
 (.exit 0)))
 (.seq
 (.block 1
 (.seq
 (.reg true [0, 1, 5, 26] [
 oQ 17 (.mov (.t 0)), oQ 18 (.mov (.t 5)), oQ 19 (.idx 1 (.t 17) (.t 18)), oQ 20 (.load false 1 (.t 19)), oQ 21 (.mov (.t 1)), oQ 22 (.mov (.t 5)), oQ 23 (.idx 1 (.t 21) (.t 22)), oQ 24 (.load false 1 (.t 23)), oQ 25 (.call (.c (.fn (.func 13) [] [])) [(.t 20), (.t 24)]), oQ 26 (.un .not (.t 25))])
 (.cond (.t 26)
 (.seq
 (.reg false [4] [
 oQ 4 (.mov (.c (.bool false)))])
 .ret)
 .skip)))
 (.reg false [0, 1, 5] [
 oQ 15 (.mov (.t 5)), oQ 16 (.bin .add (.t 15) (.c (.int .i64 1))), oQ 5 (.mov (.t 16))]))))))
 (.seq
 (.reg false [4] [
 oQ 4 (.mov (.c (.bool true)))])
 .ret))))
theorem op_constraintref29_lists (hn : vals.length ≤ 27) (h : SP Tryz.prog true vals bs rc_constraintref29_lists [.slot 4] Q) : AM.Sem Tryz.prog 20 vals bs Q :=
  Sem.nrm (Sem.of (fn := Tryz.f20) (keeps := [(0, [0, 1]), (1, [0, 1, 10]), (2, [4]), (3, [0, 1, 5]), (4, [0, 1, 5, 14]), (6, [0, 1, 5, 26]), (7, [4]), (5, [0, 1, 5]), (8, [4])]) (solo := []) Tryz.func20 rfl (by kernel_rfl) (by kernel_rfl) (by kernel_rfl) hn (run_gp h))

def rc_constraintref29_filled : RC :=
 (.seq
 (.reg false [2, 3, 4, 6] [
 oQ 3 (.box (.t 0)), oQ 4 (.box (.t 1)), oQ 6 (.box (.c (.agg [(.int .i64 0), (.int .i64 0), (.bool false), (.sl .full []), (.sl .full []), (.sl .full [])])))])
 (.seq
 (.reg false [2, 3, 4, 6, 7] [
 oQ 10 (.load true 3 (.t 4)), oQ 11 (.mov (.t 2)), oQ 12 (.build [(.int .i64 0), (.int .i64 0), (.bool false), (.sl .full []), (.sl .full []), (.sl .full [])] [(0, 3, (.t 10)), (3, 1, (.t 11))]), oQ 7 (.box (.c (.agg [(.int .i64 0), (.int .i64 0), (.bool false), (.sl .full []), (.sl .full []), (.sl .full [])]))), oN (.store 6 (.t 7) (.t 12))])
 (.seq
 (.reg false [2, 3, 6, 7, 8] [
 oQ 13 (.fptr 1 (.t 4)), oQ 14 (.load false 1 (.t 13)), oQ 15 (.bslice 1 [(.t 14)]), oQ 8 (.mov (.t 15))])
 (.seq
 (.seq
 (.reg false [2, 3, 6, 7, 8, 9] [
 oQ 9 (.mov (.c (.int .i64 0)))])
 (.block 0
 (.loop
 (.seq
 (.seq
 (.reg false [2, 3, 6, 7, 8, 9, 19] [
 oQ 16 (.mov (.t 9)), oQ 17 (.mov (.t 2)), oQ 18 (.len false (.t 17)), oQ 19 (.bin .lss (.t 16) (.t 18))])
 (.cond (.t 19)
 .skip
 (.exit 0)))
 (.seq
 (.block 1
 (.seq
 (.mult [2, 3, 6, 7, 8, 9] [
 (0, oQ 22 (.fptr 4 (.t 7))), (0, oQ 23 (.load false 1 (.t 22))), (0, oQ 24 (.load true 6 (.t 3))), (0, oQ 25 (.mov (.t 8))), (0, oQ 26 (.mov (.t 2))), (0, oQ 27 (.mov (.t 9))), (0, oQ 28 (.idx 1 (.t 26) (.t 27))), (0, oQ 29 (.load false 1 (.t 28))), (0, oQ 30 (.call (.c (.fn (.func 53) [] [])) [(.t 24), (.t 25), (.t 29)])), (0, oQ 31 (.bslice 1 [(.t 30)])), (1, oQ 32 (.eff (.appB 1) [(.t 23), (.t 31)])), (0, oQ 33 (.fptr 4 (.t 7))), (1, oN (.store 1 (.t 33) (.t 32)))])
 (.reg false [2, 3, 6, 7, 8, 9] [
 oQ 34 (.mov (.t 8)), oQ 35 (.mov (.t 2)), oQ 36 (.mov (.t 9)), oQ 37 (.idx 1 (.t 35) (.t 36)), oQ 38 (.load false 1 (.t 37)), oQ 39 (.bslice 1 [(.t 38)]), oQ 40 (.append 1 (.t 34) (.t 39)), oQ 8 (.mov (.t 40))])))
 (.reg false [2, 3, 6, 7, 8, 9] [
 oQ 20 (.mov (.t 9)), oQ 21 (.bin .add (.t 20) (.c (.int .i64 1))), oQ 9 (.mov (.t 21))]))))))
 (.seq
 (.reg false [6, 7] [
 oQ 41 (.load true 6 (.t 3)), oQ 42 (.mov (.t 8)), oQ 43 (.call (.c (.fn (.func 55) [] [])) [(.t 41), (.t 42)]), oQ 44 (.fptr 5 (.t 7)), oN (.store 1 (.t 44) (.t 43))])
 (.seq
 (.reg false [6] [
 oQ 45 (.load true 6 (.t 7)), oN (.store 6 (.t 6) (.t 45))])
 .ret))))))
theorem op_constraintref29_filled (hn : vals.length ≤ 46) (h : SP Tryz.prog true vals bs rc_constraintref29_filled [.cell 6 true 6] Q) : AM.Sem Tryz.prog 29 vals bs Q :=
  Sem.nrm (Sem.of (fn := Tryz.f29) (keeps := [(0, [2, 3, 4, 6]), (1, [2, 3, 4, 6, 7]), (2, [2, 3, 6, 7, 8]), (3, [2, 3, 6, 7, 8, 9]), (4, [2, 3, 6, 7, 8, 9, 19]), (6, [2, 3, 6, 7, 8, 9]), (7, [2, 3, 6, 7, 8, 9]), (5, [2, 3, 6, 7, 8, 9]), (8, [6, 7]), (9, [6]), (1000000, [32]), (2000006, [0, 1, 2, 3, 4, 5, 6, 7, 8, 9, 10, 11, 12]), (3000006, [0, 0, 0, 0, 0, 0, 0, 0, 0, 0, 1, 0, 1])]) (solo := []) Tryz.func29 rfl (by kernel_rfl) (by kernel_rfl) (by kernel_rfl) hn (run_gp h))

def rc_constraintlaw29_large : RC :=
 (.seq
 (.reg false [1, 2] [
 oQ 2 (.box (.t 0)), oQ 4 (.mov (.c (.bool false)))])
 (.seq
 (.seq
 (.reg false [1, 2, 20] [
 oQ 7 (.fptr 1 (.t 2)), oQ 8 (.load false 1 (.t 7)), oQ 9 (.len false (.t 8)), oQ 10 (.bin .gtr (.t 9) (.c (.int .i64 8))), oQ 11 (.mov (.t 10)), oG 12 11 false (.fptr 1 (.t 2)), oG 13 11 false (.load false 1 (.t 12)), oG 14 11 false (.call (.c (.fn (.func 11) [] [])) [(.t 13), (.c (.int .i64 60))]), oQ 15 (.pick (.t 11) (.c (.bool true)) (.t 14)), oQ 16 (.mov (.t 15)), oG 17 16 false (.mov (.t 1)), oG 18 16 false (.len false (.t 17)), oG 19 16 false (.bin .gtr (.t 18) (.c (.int .i64 10))), oQ 20 (.pick (.t 16) (.c (.bool true)) (.t 19))])
 (.cond (.t 20)
 (.seq
 (.reg false [4] [
 oQ 4 (.mov (.c (.bool true)))])
 .ret)
 .skip))
 (.seq
 (.seq
 (.reg false [1, 2, 5] [
 oQ 5 (.mov (.c (.int .i64 0)))])
 (.block 0
 (.loop
 (.seq
 (.seq
 (.reg false [1, 2, 5, 24] [
 oQ 21 (.mov (.t 5)), oQ 22 (.mov (.t 1)), oQ 23 (.len false (.t 22)), oQ 24 (.bin .lss (.t 21) (.t 23))])
 (.cond (.t 24)
 .skip
 (.exit 0)))
 (.seq
 (.block 1
 (.seq
 (.reg false [1, 2, 5, 42] [
 oQ 27 (.mov (.t 1)), oQ 28 (.mov (.t 5)), oQ 29 (.idx 3 (.t 27) (.t 28)), oQ 30 (.fptr 0 (.t 29)), oQ 31 (.load false 1 (.t 30)), oQ 32 (.len true (.t 31)), oQ 33 (.bin .gtr (.t 32) (.c (.int .i64 60))), oQ 34 (.mov (.t 33)), oG 35 34 false (.mov (.t 1)), oG 36 34 false (.mov (.t 5)), oG 37 34 false (.idx 3 (.t 35) (.t 36)), oG 38 34 false (.fptr 2 (.t 37)), oG 39 34 false (.load false 1 (.t 38)), oG 40 34 false (.len false (.t 39)), oG 41 34 false (.bin .gtr (.t 40) (.c (.int .i64 10))), oQ 42 (.pick (.t 34) (.c (.bool true)) (.t 41))])
 (.cond (.t 42)
 (.seq
 (.reg false [4] [
 oQ 4 (.mov (.c (.bool true)))])
 .ret)
 .skip)))
 (.reg false [1, 2, 5] [
 oQ 25 (.mov (.t 5)), oQ 26 (.bin .add (.t 25) (.c (.int .i64 1))), oQ 5 (.mov (.t 26))]))))))
 (.seq
 (.seq
 (.reg false [2, 6] [
 oQ 6 (.mov (.c (.int .i64 0)))])
 (.block 2
 (.loop
 (.seq
 (.seq
 (.reg false [2, 6, 47] [
 oQ 43 (.mov (.t 6)), oQ 44 (.fptr 1 (.t 2)), oQ 45 (.load false 1 (.t 44)), oQ 46 (.len false (.t 45)), oQ 47 (.bin .lss (.t 43) (.t 46))])
 (.cond (.t 47)
 .skip
 (.exit 2)))
 (.seq
 (.block 3
 (.seq
 (.reg true [2, 6, 65] [
 oQ 50 (.fptr 1 (.t 2)), oQ 51 (.load false 1 (.t 50)), oQ 52 (.mov (.t 6)), oQ 53 (.idx 6 (.t 51) (.t 52)), oQ 54 (.fptr 1 (.t 53)), oQ 55 (.load false 1 (.t 54)), oQ 56 (.len false (.t 55)), oQ 57 (.fptr 1 (.t 2)), oQ 58 (.load false 1 (.t 57)), oQ 59 (.mov (.t 6)), oQ 60 (.idx 6 (.t 58) (.t 59)), oQ 61 (.fptr 2 (.t 60)), oQ 62 (.load false 1 (.t 61)), oQ 63 (.len false (.t 62)), oQ 64 (.bin .add (.t 56) (.t 63)), oQ 65 (.bin .gtr (.t 64) (.c (.int .i64 6)))])
 (.cond (.t 65)
 (.seq
 (.reg false [4] [
 oQ 4 (.mov (.c (.bool true)))])
 .ret)
 .skip)))
 (.reg false [2, 6] [
 oQ 48 (.mov (.t 6)), oQ 49 (.bin .add (.t 48) (.c (.int .i64 1))), oQ 6 (.mov (.t 49))]))))))
 (.seq
 (.reg false [4] [
 oQ 4 (.mov (.c (.bool false)))])
 .ret)))))
theorem op_constraintlaw29_large (hn : vals.length ≤ 66) (h : SP Tryz.prog true vals bs rc_constraintlaw29_large [.slot 4] Q) : AM.Sem Tryz.prog 4 vals bs Q :=
  Sem.nrm (Sem.of (fn := Tryz.f4) (keeps := [(0, [1, 2]), (1, [1, 2, 20]), (2, [4]), (3, [1, 2, 5]), (4, [1, 2, 5, 24]), (6, [1, 2, 5, 42]), (7, [4]), (5, [1, 2, 5]), (8, [2, 6]), (9, [2, 6, 47]), (11, [2, 6, 65]), (12, [4]), (10, [2, 6]), (13, [4])]) (solo := []) Tryz.func4 rfl (by kernel_rfl) (by kernel_rfl) (by kernel_rfl) hn (run_gp h))

def rc_constraintlaw29_exampleHolds : RC :=
 (.seq
 (.reg false [] [
 oQ 0 (.mov (.c (.bool false)))])
 (.seq
 (.reg false [1] [
 oQ 4 (.bslice 1 [(.c (.int .i64 0)), (.c (.int .i64 1))]), oQ 5 (.call (.c (.fn (.func 12) [] [])) [(.c (.str ⟨⟨[101]⟩⟩)), (.t 4)]), oQ 6 (.bslice 1 [(.c (.int .i64 1)), (.c (.int .i64 2))]), oQ 7 (.call (.c (.fn (.func 12) [] [])) [(.c (.str ⟨⟨[101]⟩⟩)), (.t 6)]), oQ 8 (.bslice 1 [(.c (.int .i64 0)), (.c (.int .i64 2))]), oQ 9 (.call (.c (.fn (.func 12) [] [])) [(.c (.str ⟨⟨[116]⟩⟩)), (.t 8)]), oQ 10 (.bslice 2 [(.t 5), (.t 7), (.t 9)]), oQ 11 (.build [(.str ⟨⟨[]⟩⟩), (.sl .full []), (.sl .full []), (.sl .full []), (.sl .full []), (.int .i64 0)] [(1, 1, (.t 10)), (5, 1, (.c (.int .i64 3)))]), oQ 12 (.bslice 1 [(.c (.int .i64 0))]), oQ 13 (.call (.c (.fn (.func 12) [] [])) [(.c (.str ⟨⟨[97]⟩⟩)), (.t 12)]), oQ 14 (.bslice 1 [(.c (.int .i64 1)), (.c (.int .i64 2))]), oQ 15 (.call (.c (.fn (.func 12) [] [])) [(.c (.str ⟨⟨[98]⟩⟩)), (.t 14)]), oQ 16 (.bslice 1 [(.c (.int .i64 0)), (.c (.int .i64 1))]), oQ 17 (.call (.c (.fn (.func 12) [] [])) [(.c (.str ⟨⟨[101]⟩⟩)), (.t 16)]), oQ 18 (.bslice 2 [(.t 13), (.t 15), (.t 17)]), oQ 19 (.build [(.str ⟨⟨[]⟩⟩), (.sl .full []), (.sl .full []), (.sl .full []), (.sl .full []), (.int .i64 0)] [(1, 1, (.t 18)), (5, 1, (.c (.int .i64 3)))]), oQ 20 (.bslice 6 [(.t 11), (.t 19)]), oQ 21 (.build [(.sl .full []), (.sl .full [])] [(1, 1, (.t 20))]), oQ 1 (.box (.c (.agg [(.sl .full []), (.sl .full [])]))), oN (.store 2 (.t 1) (.t 21))])
 (.seq
 (.reg false [1, 2] [
 oQ 22 (.load true 2 (.t 1)), oQ 23 (.build [(.int .i64 0), (.int .i64 0), (.bool false)] [(1, 1, (.c (.int .i64 0))), (2, 1, (.c (.bool true)))]), oQ 24 (.call (.c (.fn (.func 9) [] [])) [(.t 22), (.c (.sl .full [])), (.t 23)]), oQ 2 (.box (.c (.agg [(.int .i64 0), (.int .i64 0), (.bool false), (.sl .full []), (.sl .full []), (.sl .full [])]))), oN (.store 6 (.t 2) (.t 24))])
 (.seq
 (.reg false [1, 2, 3] [
 oQ 25 (.load true 2 (.t 1)), oQ 26 (.bslice 1 [(.c (.int .i64 0))]), oQ 27 (.build [(.str ⟨⟨[]⟩⟩), (.int .i64 0), (.sl .full [])] [(0, 1, (.c (.str ⟨⟨[101]⟩⟩))), (1, 1, (.c (.int .i64 2))), (2, 1, (.t 26))]), oQ 28 (.bslice 3 [(.t 27)]), oQ 29 (.build [(.int .i64 0), (.int .i64 0), (.bool false)] [(0, 1, (.c (.int .i64 1))), (1, 1, (.c (.int .i64 0))), (2, 1, (.c (.bool true)))]), oQ 30 (.call (.c (.fn (.func 9) [] [])) [(.t 25), (.t 28), (.t 29)]), oQ 3 (.box (.c (.agg [(.int .i64 0), (.int .i64 0), (.bool false), (.sl .full []), (.sl .full []), (.sl .full [])]))), oN (.store 6 (.t 3) (.t 30))])
 (.seq
 (.reg false [0] [
 oQ 31 (.fptr 3 (.t 2)), oQ 32 (.load false 1 (.t 31)), oQ 33 (.bslice 1 [(.c (.int .i64 1)), (.c (.int .i64 2))]), oQ 34 (.call (.c (.fn (.func 13) [] [])) [(.t 32), (.t 33)]), oQ 35 (.mov (.t 34)), oG 36 35 true (.fptr 4 (.t 2)), oG 37 35 true (.load false 1 (.t 36)), oG 38 35 true (.len false (.t 37)), oG 39 35 true (.bin .eql (.t 38) (.c (.int .i64 2))), oQ 40 (.pick (.t 35) (.t 39) (.c (.bool false))), oQ 41 (.mov (.t 40)), oG 42 41 true (.fptr 4 (.t 2)), oG 43 41 true (.load false 1 (.t 42)), oG 44 41 true (.idx 1 (.t 43) (.c (.int .i64 1))), oG 45 41 true (.load false 1 (.t 44)), oG 46 41 true (.bslice 1 [(.c (.int .i64 0)), (.c (.int .i64 1))]), oG 47 41 true (.call (.c (.fn (.func 13) [] [])) [(.t 45), (.t 46)]), oQ 48 (.pick (.t 41) (.t 47) (.c (.bool false))), oQ 49 (.mov (.t 48)), oG 50 49 true (.fptr 5 (.t 2)), oG 51 49 true (.load false 1 (.t 50)), oG 52 49 true (.len false (.t 51)), oG 53 49 true (.bin .eql (.t 52) (.c (.int .i64 4))), oQ 54 (.pick (.t 49) (.t 53) (.c (.bool false))), oQ 55 (.mov (.t 54)), oG 56 55 true (.fptr 3 (.t 3)), oG 57 55 true (.load false 1 (.t 56)), oG 58 55 true (.bslice 1 [(.c (.int .i64 2)), (.c (.int .i64 1))]), oG 59 55 true (.call (.c (.fn (.func 13) [] [])) [(.t 57), (.t 58)]), oQ 60 (.pick (.t 55) (.t 59) (.c (.bool false))), oQ 61 (.mov (.t 60)), oG 62 61 true (.load true 2 (.t 1)), oG 63 61 true (.load true 6 (.t 2)), oG 64 61 true (.call (.c (.fn (.func 14) [] [])) [(.t 62), (.t 63)]), oQ 65 (.pick (.t 61) (.t 64) (.c (.bool false))), oQ 66 (.mov (.t 65)), oG 67 66 true (.load true 2 (.t 1)), oG 68 66 true (.build [(.int .i64 0), (.int .i64 0), (.bool false), (.sl .full []), (.sl .full []), (.sl .full [])] []), oG 69 66 true (.call (.c (.fn (.func 14) [] [])) [(.t 67), (.t 68)]), oG 70 66 true (.un .not (.t 69)), oQ 71 (.pick (.t 66) (.t 70) (.c (.bool false))), oQ 72 (.mov (.t 71)), oG 73 72 true (.load true 2 (.t 1)), oG 74 72 true (.call (.c (.fn (.func 6) [] [])) [(.t 73)]), oG 75 72 true (.len false (.t 74)), oG 76 72 true (.bin .eql (.t 75) (.c (.int .i64 6))), oQ 77 (.pick (.t 72) (.t 76) (.c (.bool false))), oQ 78 (.mov (.t 77)), oG 79 78 true (.load true 2 (.t 1)), oG 80 78 true (.bslice 1 [(.c (.int .i64 0))]), oG 81 78 true (.call (.c (.fn (.func 15) [] [])) [(.t 79), (.c (.sl .full [])), (.c (.int .i64 0)), (.t 80), (.c (.int .i64 1))]), oG 82 78 true (.bin .eql (.t 81) (.c (.int .i64 10))), oQ 83 (.pick (.t 78) (.t 82) (.c (.bool false))), oQ 0 (.mov (.t 83))])
 .ret)))))
theorem op_constraintlaw29_exampleHolds (hn : vals.length ≤ 84) (h : SP Tryz.prog true vals bs rc_constraintlaw29_exampleHolds [.slot 0] Q) : AM.Sem Tryz.prog 5 vals bs Q :=
  Sem.nrm (Sem.of (fn := Tryz.f5) (keeps := [(0, []), (1, [1]), (2, [1, 2]), (3, [1, 2, 3]), (4, [0])]) (solo := []) Tryz.func5 rfl (by kernel_rfl) (by kernel_rfl) (by kernel_rfl) hn (run_gp h))

def rc_constraintlaw29_head : RC :=
 (.seq
 (.reg false [0, 1, 4] [
 oQ 4 (.box (.c (.agg [(.str ⟨⟨[]⟩⟩), (.sl .full [])])))])
 (.seq
 (.reg false [1, 4, 5] [
 oQ 7 (.mov (.t 0)), oQ 8 (.build [(.str ⟨⟨[]⟩⟩), (.sl .full [])] [(0, 1, (.t 7))]), oQ 5 (.box (.c (.agg [(.str ⟨⟨[]⟩⟩), (.sl .full [])]))), oN (.store 2 (.t 5) (.t 8))])
 (.seq
 (.seq
 (.reg false [1, 4, 5, 6] [
 oQ 6 (.mov (.c (.int .i64 0)))])
 (.block 0
 (.loop
 (.seq
 (.seq
 (.reg false [1, 4, 5, 6, 12] [
 oQ 9 (.mov (.t 6)), oQ 10 (.mov (.t 1)), oQ 11 (.len false (.t 10)), oQ 12 (.bin .lss (.t 9) (.t 11))])
 (.cond (.t 12)
 .skip
 (.exit 0)))
 (.seq
 (.block 1
 (.mult [1, 4, 5, 6] [
 (0, oQ 15 (.fptr 1 (.t 5))), (0, oQ 16 (.load false 1 (.t 15))), (0, oQ 17 (.mov (.t 1))), (0, oQ 18 (.mov (.t 6))), (0, oQ 19 (.idx 1 (.t 17) (.t 18))), (0, oQ 20 (.load false 1 (.t 19))), (0, oQ 21 (.call (.c (.fn (.func 32) [] [])) [(.t 20)])), (0, oQ 22 (.bslice 4 [(.t 21)])), (1, oQ 23 (.eff (.appB 4) [(.t 16), (.t 22)])), (0, oQ 24 (.fptr 1 (.t 5))), (1, oN (.store 1 (.t 24) (.t 23)))]))
 (.reg false [1, 4, 5, 6] [
 oQ 13 (.mov (.t 6)), oQ 14 (.bin .add (.t 13) (.c (.int .i64 1))), oQ 6 (.mov (.t 14))]))))))
 (.seq
 (.reg false [4] [
 oQ 25 (.load true 2 (.t 5)), oN (.store 2 (.t 4) (.t 25))])
 .ret))))
theorem op_constraintlaw29_head (hn : vals.length ≤ 26) (h : SP Tryz.prog true vals bs rc_constraintlaw29_head [.cell 4 true 2] Q) : AM.Sem Tryz.prog 12 vals bs Q :=
  Sem.nrm (Sem.of (fn := Tryz.f12) (keeps := [(0, [0, 1, 4]), (1, [1, 4, 5]), (2, [1, 4, 5, 6]), (3, [1, 4, 5, 6, 12]), (5, [1, 4, 5, 6]), (4, [1, 4, 5, 6]), (6, [4]), (1000000, [23]), (2000005, [0, 1, 2, 3, 4, 5, 6, 7, 8, 9, 10]), (3000005, [0, 0, 0, 0, 0, 0, 0, 0, 1, 0, 1])]) (solo := []) Tryz.func12 rfl (by kernel_rfl) (by kernel_rfl) (by kernel_rfl) hn (run_gp h))

theorem opS_slices_ContainsFunc_int_int (hn : vals.length ≤ 9) (h : SP Tryz.prog false vals bs rc_slices_ContainsFunc_int_int [.slot 4] Q) : AM.Sem Tryz.prog 69 vals bs Q :=
  Sem.nrm (Sem.of (fn := Tryz.f69) (keeps := [(0, [0, 1]), (1, [4])]) (solo := []) Tryz.func69 rfl (by kernel_rfl) (by kernel_rfl) (by kernel_rfl) hn (run_gp h))

theorem opS_slices_IndexFunc_int_int (hn : vals.length ≤ 19) (h : SP Tryz.prog false vals bs rc_slices_IndexFunc_int_int [.slot 4] Q) : AM.Sem Tryz.prog 83 vals bs Q :=
  Sem.nrm (Sem.of (fn := Tryz.f83) (keeps := [(0, [0, 1]), (1, [0, 1, 7, 8]), (2, [0, 1, 7, 8, 9]), (3, [0, 1, 5, 7, 8]), (4, [0, 1, 5, 7, 8, 16]), (5, [4]), (6, [0, 1, 7, 8]), (7, [4])]) (solo := []) Tryz.func83 rfl (by kernel_rfl) (by kernel_rfl) (by kernel_rfl) hn (run_gp h))

theorem opS_term_each_1 (hn : vals.length ≤ 17) (h : SP Tryz.prog false vals bs rc_term_each_1 [] Q) : AM.Sem Tryz.prog 98 vals bs Q :=
  Sem.nrm (Sem.of (fn := Tryz.f98) (keeps := [(0, [0, 1, 5, 6]), (1, [0, 1, 5, 6, 7]), (2, [0, 1, 3, 5, 6]), (3, [0, 1, 5, 6, 15]), (4, [0, 1, 5, 6])]) (solo := []) Tryz.func98 rfl (by kernel_rfl) (by kernel_rfl) (by kernel_rfl) hn (run_gp h))

theorem opS_term_walk (hn : vals.length ≤ 26) (h : SP Tryz.prog false vals bs rc_term_walk [.slot 4] Q) : AM.Sem Tryz.prog 99 vals bs Q :=
  Sem.nrm (Sem.of (fn := Tryz.f99) (keeps := [(0, [1, 2]), (1, [1, 2, 9]), (2, [4]), (3, [1, 15, 16, 17]), (4, [1, 15, 16, 17, 18]), (5, [1, 6, 15, 16, 17]), (6, [1, 15, 16, 17, 24]), (7, [4]), (8, [1, 15, 16, 17]), (9, [4])]) (solo := []) Tryz.func99 rfl (by kernel_rfl) (by kernel_rfl) (by kernel_rfl) hn (run_gp h))

theorem opS_constraintref03_vars (hn : vals.length ≤ 37) (h : SP Tryz.prog false vals bs rc_constraintref03_vars [.slot 4] Q) : AM.Sem Tryz.prog 85 vals bs Q :=
  Sem.nrm (Sem.of (fn := Tryz.f85) (keeps := [(0, [0, 3]), (1, [0, 3, 16]), (2, [0, 3]), (3, [0, 5]), (4, [0, 5, 6]), (5, [0, 5, 6, 27]), (7, [0, 5, 6]), (6, [0, 5, 6]), (8, [4]), (1000000, [21])]) (solo := []) Tryz.func85 rfl (by kernel_rfl) (by kernel_rfl) (by kernel_rfl) hn (run_gp h))

theorem opS_constraintref03_VarsOf (hn : vals.length ≤ 18) (h : SP Tryz.prog false vals bs rc_constraintref03_VarsOf [.slot 2] Q) : AM.Sem Tryz.prog 72 vals bs Q :=
  Sem.nrm (Sem.of (fn := Tryz.f72) (keeps := [(0, [0]), (1, [0, 3]), (2, [0, 3, 4]), (3, [0, 3, 4, 8]), (5, [0, 3, 4]), (4, [0, 3, 4]), (6, [2])]) (solo := []) Tryz.func72 rfl (by kernel_rfl) (by kernel_rfl) (by kernel_rfl) hn (run_gp h))

theorem opS_constraintref03_Vars (hn : vals.length ≤ 5) (h : SP Tryz.prog false vals bs rc_constraintref03_Vars [.slot 2] Q) : AM.Sem Tryz.prog 74 vals bs Q :=
  Sem.nrm (Sem.of (fn := Tryz.f74) (keeps := [(0, [1]), (1, [2])]) (solo := []) Tryz.func74 rfl (by kernel_rfl) (by kernel_rfl) (by kernel_rfl) hn (run_gp h))

theorem opS_occur_each_1 (hn : vals.length ≤ 40) (h : SP Tryz.prog false vals bs rc_occur_each_1 [] Q) : AM.Sem Tryz.prog 63 vals bs Q :=
  Sem.nrm (Sem.of (fn := Tryz.f63) (keeps := [(0, [0, 8, 9, 10]), (1, [0, 8, 9, 10, 11]), (2, [0, 3, 4, 8, 9, 10]), (3, [0, 3, 4, 5, 8, 9, 10]), (4, [0, 3, 4, 5, 6, 8, 9, 10]), (5, [0, 3, 4, 5, 6, 8, 9, 10, 21]), (7, [0, 3, 4, 5, 6, 8, 9, 10, 38]), (6, [0, 3, 4, 5, 6, 8, 9, 10]), (8, [0, 8, 9, 10])]) (solo := [(7, 13)]) Tryz.func63 rfl (by kernel_rfl) (by kernel_rfl) (by kernel_rfl) hn (run_gp h))

theorem opS_depend_variables (hn : vals.length ≤ 35) (h : SP Tryz.prog false vals bs rc_depend_variables [.slot 2, .slot 3] Q) : AM.Sem Tryz.prog 61 vals bs Q :=
  Sem.nrm (Sem.of (fn := Tryz.f61) (keeps := [(0, [1]), (1, [1, 4]), (2, [4, 11, 12, 13]), (3, [4, 11, 12, 13, 14]), (4, [4, 5, 6, 11, 12, 13]), (5, [4, 5, 6, 11, 12, 13, 20]), (6, [2, 3]), (7, [4, 5, 6, 8, 11, 12, 13]), (8, [4, 5, 6, 11, 12, 13, 28]), (9, [2, 3]), (10, [4, 11, 12, 13]), (11, [4, 11, 12, 13]), (12, [2, 3])]) (solo := []) Tryz.func61 rfl (by kernel_rfl) (by kernel_rfl) (by kernel_rfl) hn (run_gp h))

theorem opS_depend_Keys_1 (hn : vals.length ≤ 7) (h : SP Tryz.prog false vals bs rc_depend_Keys_1 [.slot 3] Q) : AM.Sem Tryz.prog 40 vals bs Q :=
  Sem.nrm (Sem.of (fn := Tryz.f40) (keeps := [(0, [1, 2]), (1, [3])]) (solo := []) Tryz.func40 rfl (by kernel_rfl) (by kernel_rfl) (by kernel_rfl) hn (run_gp h))

theorem opS_depend_Unique_1 (hn : vals.length ≤ 8) (h : SP Tryz.prog false vals bs rc_depend_Unique_1 [.slot 3] Q) : AM.Sem Tryz.prog 68 vals bs Q :=
  Sem.nrm (Sem.of (fn := Tryz.f68) (keeps := [(0, [0, 1]), (1, [3])]) (solo := []) Tryz.func68 rfl (by kernel_rfl) (by kernel_rfl) (by kernel_rfl) hn (run_gp h))

theorem opS_slices_ContainsFunc_api_Key_api_Key (hn : vals.length ≤ 9) (h : SP Tryz.prog false vals bs rc_slices_ContainsFunc_api_Key_api_Key [.slot 4] Q) : AM.Sem Tryz.prog 39 vals bs Q :=
  Sem.nrm (Sem.of (fn := Tryz.f39) (keeps := [(0, [0, 1]), (1, [4])]) (solo := []) Tryz.func39 rfl (by kernel_rfl) (by kernel_rfl) (by kernel_rfl) hn (run_gp h))

theorem opS_slices_IndexFunc_api_Key_api_Key (hn : vals.length ≤ 19) (h : SP Tryz.prog false vals bs rc_slices_IndexFunc_api_Key_api_Key [.slot 4] Q) : AM.Sem Tryz.prog 62 vals bs Q :=
  Sem.nrm (Sem.of (fn := Tryz.f62) (keeps := [(0, [0, 1]), (1, [0, 1, 7, 8]), (2, [0, 1, 7, 8, 9]), (3, [0, 1, 5, 7, 8]), (4, [0, 1, 5, 7, 8, 16]), (5, [4]), (6, [0, 1, 7, 8]), (7, [4])]) (solo := []) Tryz.func62 rfl (by kernel_rfl) (by kernel_rfl) (by kernel_rfl) hn (run_gp h))

theorem opS_guard_known_covers (hn : vals.length ≤ 19) (h : SP Tryz.prog false vals bs rc_guard_known_covers [.slot 4] Q) : AM.Sem Tryz.prog 70 vals bs Q :=
  Sem.nrm (Sem.of (fn := Tryz.f70) (keeps := [(0, [0, 3]), (1, [0, 8, 9, 10]), (2, [0, 8, 9, 10, 11]), (3, [0, 6, 8, 9, 10]), (4, [0, 8, 9, 10, 17]), (5, [4]), (6, [0, 8, 9, 10]), (7, [4])]) (solo := []) Tryz.func70 rfl (by kernel_rfl) (by kernel_rfl) (by kernel_rfl) hn (run_gp h))

theorem opS_guard_known_enter (hn : vals.length ≤ 29) (h : SP Tryz.prog false vals bs rc_guard_known_enter [] Q) : AM.Sem Tryz.prog 71 vals bs Q :=
  Sem.nrm (Sem.of (fn := Tryz.f71) (keeps := [(0, [0, 1, 2, 15]), (1, [0, 20, 21, 22]), (2, [0, 20, 21, 22, 23]), (3, [0, 7, 20, 21, 22]), (4, [0, 20, 21, 22]), (5, [0, 20, 21, 22])]) (solo := []) Tryz.func71 rfl (by kernel_rfl) (by kernel_rfl) (by kernel_rfl) hn (run_gp h))

end Go.CK

