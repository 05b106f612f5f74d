/-
  Texts of this claim joined (wip/gen/bundle.py), those declarations only that are needed: RcTrm AmRw Term Data Av AmVw AmTa. By an AI agent.
-/
import Derived.Test.YtcjfkbdbcgmomaaGreatDoorProg
import Derived.Test.YtcjfkbdbcgmomaaGreatDoorBap
import Derived.Test.YtcjfkbdbcgmomaaGreatDoorBaa
set_option linter.unusedSimpArgs false
set_option linter.unusedVariables false
namespace Go.CK
open Go.AM Go.Proofs
abbrev oQ (d : Nat) (x : RX) : ROp := ⟨some d, none, x⟩
abbrev oG (d g : Nat) (b : Bool) (x : RX) : ROp := ⟨some d, some (g, b), x⟩
abbrev oN (x : RX) : ROp := ⟨none, none, x⟩
abbrev qM (d a : Nat) : ROp := oQ d (.mov (.t a))
abbrev qK (d a : Nat) : ROp := oQ d (.nilck (.t a))
abbrev qF (d k a : Nat) : ROp := oQ d (.fptr k (.t a))
abbrev qL (d a : Nat) : ROp := oQ d (.load false 1 (.t a))
abbrev qA (d z a : Nat) : ROp := oQ d (.load true z (.t a))
abbrev qI (d z a b : Nat) : ROp := oQ d (.idx z (.t a) (.t b))
abbrev SP (P : Program) (b : Bool) (vals : List AV) (bs : List Box) (c : RC) (rs : List RRes) (Q : AV -> List Box -> Prop) : Prop := (⟨params 0 vals, bs, bs.length⟩ : St).fo b fun s => c.gp P b s (retP rs Q)
variable {vals : List AV} {bs : List Box} {Q : AV -> List Box -> Prop}
def rc_cmp_Compare_int : RC :=
 (.seq
 (.reg false [0, 1] [
 oQ 4 (.mov (.c (.int .i64 0)))])
 (.seq
 (.reg false [0, 1, 5] [
 qM 7 0, oQ 8 (.call (.c (.fn (.func 152) [] [])) [(.t 7)]), qM 5 8])
 (.seq
 (.reg false [0, 1, 5, 6] [
 qM 9 1, oQ 10 (.call (.c (.fn (.func 152) [] [])) [(.t 9)]), qM 6 10])
 (.seq
 (.seq
 (.reg false [0, 1, 6, 11] [
 qM 11 5])
 (.cond (.t 11)
 (.seq
 (.seq
 (.reg false [12] [
 qM 12 6])
 (.cond (.t 12)
 (.seq
 (.reg false [4] [
 oQ 4 (.mov (.c (.int .i64 0)))])
 .ret)
 .skip))
 (.seq
 (.reg false [4] [
 oQ 4 (.mov (.c (.int .i64 (-1))))])
 .ret))
 .skip))
 (.seq
 (.seq
 (.reg false [0, 1, 13] [
 qM 13 6])
 (.cond (.t 13)
 (.seq
 (.reg false [4] [
 oQ 4 (.mov (.c (.int .i64 1)))])
 .ret)
 .skip))
 (.seq
 (.seq
 (.reg false [0, 1, 16] [
 qM 14 0, qM 15 1, oQ 16 (.bin .lss (.t 14) (.t 15))])
 (.cond (.t 16)
 (.seq
 (.reg false [4] [
 oQ 4 (.mov (.c (.int .i64 (-1))))])
 .ret)
 .skip))
 (.seq
 (.seq
 (.reg false [19] [
 qM 17 0, qM 18 1, oQ 19 (.bin .gtr (.t 17) (.t 18))])
 (.cond (.t 19)
 (.seq
 (.reg false [4] [
 oQ 4 (.mov (.c (.int .i64 1)))])
 .ret)
 .skip))
 (.seq
 (.reg false [4] [
 oQ 4 (.mov (.c (.int .i64 0)))])
 .ret))))))))
theorem op_cmp_Compare_int (hn : vals.length ≤ 20) (h : SP Tryz.prog true vals bs rc_cmp_Compare_int [.slot 4] Q) : AM.Sem Tryz.prog 101 vals bs Q :=
 Sem.nrm (Sem.of (fn := Tryz.f101) (keeps := [(0, [0, 1]), (1, [0, 1, 5]), (2, [0, 1, 5, 6]), (3, [0, 1, 6, 11]), (4, [12]), (5, [4]), (6, [4]), (7, [0, 1, 13]), (8, [4]), (9, [0, 1, 16]), (10, [4]), (11, [19]), (12, [4]), (13, [4])]) (solo := []) Tryz.func101 rfl (by kernel_rfl) (by kernel_rfl) (by kernel_rfl) hn (run_gp h))
def rc_cmp_isNaN_int : RC :=
 (.seq
 (.reg false [0] [
 oQ 2 (.mov (.c (.bool false)))])
 (.seq
 (.reg false [2] [
 qM 3 0, qM 4 0, oQ 5 (.bin .neq (.t 3) (.t 4)), qM 2 5])
 .ret))
theorem op_cmp_isNaN_int (hn : vals.length ≤ 6) (h : SP Tryz.prog true vals bs rc_cmp_isNaN_int [.slot 2] Q) : AM.Sem Tryz.prog 152 vals bs Q :=
 Sem.nrm (Sem.of (fn := Tryz.f152) (keeps := [(0, [0]), (1, [2])]) (solo := []) Tryz.func152 rfl (by kernel_rfl) (by kernel_rfl) (by kernel_rfl) hn (run_gp h))
def rc_constraintref03_SameInts : RC :=
 (.seq
 (.reg false [0, 1] [
 oQ 4 (.mov (.c (.bool false)))])
 (.seq
 (.seq
 (.reg false [0, 1, 10] [
 qM 6 0, oQ 7 (.len false (.t 6)), qM 8 1, oQ 9 (.len false (.t 8)), oQ 10 (.bin .neq (.t 7) (.t 9))])
 (.cond (.t 10)
 (.seq
 (.reg false [4] [
 oQ 4 (.mov (.c (.bool false)))])
 .ret)
 .skip))
 (.seq
 (.seq
 (.reg false [0, 1, 5] [
 oQ 5 (.mov (.c (.int .i64 0)))])
 (.block 0
 (.loop
 (.seq
 (.seq
 (.reg false [0, 1, 5, 20] [
 qM 11 5, qM 12 0, oQ 13 (.len false (.t 12)), oQ 14 (.bin .lss (.t 11) (.t 13)), qM 15 14, oG 16 15 true (.mov (.t 5)), oG 17 15 true (.mov (.t 1)), oG 18 15 true (.len false (.t 17)), oG 19 15 true (.bin .lss (.t 16) (.t 18)), oQ 20 (.pick (.t 15) (.t 19) (.c (.bool false)))])
 (.cond (.t 20)
 .skip
 (.exit 0)))
 (.seq
 (.block 1
 (.seq
 (.reg true [0, 1, 5, 31] [
 qM 23 0, qM 24 5, qI 25 1 23 24, qL 26 25, qM 27 1, qM 28 5, qI 29 1 27 28, qL 30 29, oQ 31 (.bin .neq (.t 26) (.t 30))])
 (.cond (.t 31)
 (.seq
 (.reg false [4] [
 oQ 4 (.mov (.c (.bool false)))])
 .ret)
 .skip)))
 (.reg false [0, 1, 5] [
 qM 21 5, oQ 22 (.bin .add (.t 21) (.c (.int .i64 1))), qM 5 22]))))))
 (.seq
 (.reg false [4] [
 oQ 4 (.mov (.c (.bool true)))])
 .ret))))
theorem op_constraintref03_SameInts (hn : vals.length ≤ 32) (h : SP Tryz.prog true vals bs rc_constraintref03_SameInts [.slot 4] Q) : AM.Sem Tryz.prog 17 vals bs Q :=
 Sem.nrm (Sem.of (fn := Tryz.f17) (keeps := [(0, [0, 1]), (1, [0, 1, 10]), (2, [4]), (3, [0, 1, 5]), (4, [0, 1, 5, 20]), (6, [0, 1, 5, 31]), (7, [4]), (5, [0, 1, 5]), (8, [4])]) (solo := []) Tryz.func17 rfl (by kernel_rfl) (by kernel_rfl) (by kernel_rfl) hn (run_gp h))
def rc_constraintref03_SameAtom : RC :=
 (.seq
 (.reg false [2, 3] [
 oQ 2 (.box (.t 0)), oQ 3 (.box (.t 1)), oQ 4 (.mov (.c (.bool false)))])
 (.seq
 (.reg false [4] [
 qA 5 2 2, qA 6 2 3, oQ 7 (.call (.c (.fn (.func 107) [] [])) [(.t 5), (.t 6)]), oQ 8 (.bin .eql (.t 7) (.c (.int .i64 0))), qM 4 8])
 .ret))
theorem op_constraintref03_SameAtom (hn : vals.length ≤ 9) (h : SP Tryz.prog true vals bs rc_constraintref03_SameAtom [.slot 4] Q) : AM.Sem Tryz.prog 52 vals bs Q :=
 Sem.nrm (Sem.of (fn := Tryz.f52) (keeps := [(0, [2, 3]), (1, [4])]) (solo := []) Tryz.func52 rfl (by kernel_rfl) (by kernel_rfl) (by kernel_rfl) hn (run_gp h))
def rc_constraintref03_GreatAtoms : RC :=
 (.seq
 (.reg false [0, 1] [
 oQ 4 (.mov (.c (.bool false)))])
 (.seq
 (.seq
 (.reg false [0, 1, 5] [
 oQ 5 (.mov (.c (.int .i64 0)))])
 (.block 0
 (.loop
 (.seq
 (.seq
 (.reg false [0, 1, 5, 13] [
 qM 6 5, qM 7 0, oQ 8 (.len false (.t 7)), oQ 9 (.bin .lss (.t 6) (.t 8)), qM 10 9, oG 11 10 true (.mov (.t 1)), oG 12 10 true (.bin .geq (.t 11) (.c (.int .i64 0))), oQ 13 (.pick (.t 10) (.t 12) (.c (.bool false)))])
 (.cond (.t 13)
 .skip
 (.exit 0)))
 (.seq
 (.block 1
 (.reg true [0, 1, 5] [
 qM 16 0, qM 17 5, qI 18 2 16 17, qF 19 1 18, qL 20 19, qM 21 1, oQ 22 (.bin .sub (.t 21) (.c (.int .i64 1))), qM 23 0, qM 24 5, qI 25 2 23 24, qF 26 0 25, qL 27 26, oQ 28 (.len true (.t 27)), oQ 29 (.bin .quo (.t 28) (.c (.int .i64 8))), oQ 30 (.bin .sub (.t 22) (.t 29)), oQ 31 (.call (.c (.fn (.func 93) [] [])) [(.t 20), (.t 30), (.c (.int .i64 64))]), oQ 1 (.take 31)]))
 (.reg false [0, 1, 5] [
 qM 14 5, oQ 15 (.bin .add (.t 14) (.c (.int .i64 1))), qM 5 15]))))))
 (.seq
 (.reg false [4] [
 qM 32 1, oQ 33 (.bin .lss (.t 32) (.c (.int .i64 0))), qM 4 33])
 .ret)))
theorem op_constraintref03_GreatAtoms (hn : vals.length ≤ 34) (h : SP Tryz.prog true vals bs rc_constraintref03_GreatAtoms [.slot 4] Q) : AM.Sem Tryz.prog 37 vals bs Q :=
 Sem.nrm (Sem.of (fn := Tryz.f37) (keeps := [(0, [0, 1]), (1, [0, 1, 5]), (2, [0, 1, 5, 13]), (4, [0, 1, 5]), (3, [0, 1, 5]), (5, [4])]) (solo := []) Tryz.func37 rfl (by kernel_rfl) (by kernel_rfl) (by kernel_rfl) hn (run_gp h))
def rc_constraintref03_CompareAtom : RC :=
 (.seq
 (.reg false [2, 3] [
 oQ 2 (.box (.t 0)), oQ 3 (.box (.t 1)), oQ 4 (.mov (.c (.int .i64 0)))])
 (.seq
 (.reg false [2, 3, 5] [
 qF 6 0 2, qL 7 6, qF 8 0 3, qL 9 8, oQ 10 (.call (.c (.fn (.func 159) [] [])) [(.t 7), (.t 9)]), qM 5 10])
 (.seq
 (.seq
 (.reg false [2, 3, 5, 12] [
 qM 11 5, oQ 12 (.bin .eql (.t 11) (.c (.int .i64 0)))])
 (.cond (.t 12)
 (.reg false [2, 3, 5] [
 qF 13 1 2, qL 14 13, oQ 15 (.len false (.t 14)), qF 16 1 3, qL 17 16, oQ 18 (.len false (.t 17)), oQ 19 (.call (.c (.fn (.func 160) [] [])) [(.t 15), (.t 18)]), qM 5 19])
 .skip))
 (.seq
 (.seq
 (.reg false [2, 3, 5, 21] [
 qM 20 5, oQ 21 (.bin .eql (.t 20) (.c (.int .i64 0)))])
 (.cond (.t 21)
 (.reg false [5] [
 qF 22 1 2, qL 23 22, qF 24 1 3, qL 25 24, oQ 26 (.call (.c (.fn (.func 110) [] [])) [(.t 23), (.t 25)]), qM 5 26])
 .skip))
 (.seq
 (.reg false [4] [
 qM 27 5, qM 4 27])
 .ret)))))
theorem op_constraintref03_CompareAtom (hn : vals.length ≤ 28) (h : SP Tryz.prog true vals bs rc_constraintref03_CompareAtom [.slot 4] Q) : AM.Sem Tryz.prog 107 vals bs Q :=
 Sem.nrm (Sem.of (fn := Tryz.f107) (keeps := [(0, [2, 3]), (1, [2, 3, 5]), (2, [2, 3, 5, 12]), (3, [2, 3, 5]), (4, [2, 3, 5, 21]), (5, [5]), (6, [4])]) (solo := []) Tryz.func107 rfl (by kernel_rfl) (by kernel_rfl) (by kernel_rfl) hn (run_gp h))
def rc_constraintref03_Compare : RC :=
 (.seq
 (.reg false [2, 3] [
 oQ 2 (.box (.t 0)), oQ 3 (.box (.t 1)), oQ 4 (.mov (.c (.int .i64 0)))])
 (.seq
 (.reg true [2, 3, 5] [
 qA 6 4 2, oQ 7 (.call (.c (.fn (.func 203) [] [])) [(.t 6)]), qA 8 4 3, oQ 9 (.call (.c (.fn (.func 203) [] [])) [(.t 8)]), oQ 10 (.call (.c (.fn (.func 160) [] [])) [(.t 7), (.t 9)]), oQ 5 (.take 10)])
 (.seq
 (.seq
 (.reg false [2, 3, 5, 12] [
 qM 11 5, oQ 12 (.bin .neq (.t 11) (.c (.int .i64 0)))])
 (.cond (.t 12)
 (.seq
 (.reg false [4] [
 qM 13 5, qM 4 13])
 .ret)
 .skip))
 (.seq
 (.seq
 (.reg false [2, 3, 15] [
 qA 14 4 2, oQ 15 (.call (.c (.fn (.func 203) [] [])) [(.t 14)])])
 (.block 0
 (.seq
 (.seq
 (.reg false [2, 3, 15, 16] [
 oQ 17 (.bin .eql (.t 15) (.c (.int .i64 0))), qM 16 17])
 (.cond (.t 16)
 .skip
 (.reg false [2, 3, 15, 16] [
 oQ 18 (.bin .eql (.t 15) (.c (.int .i64 1))), qM 16 18])))
 (.cond (.t 16)
 (.seq
 (.reg false [4] [
 qF 19 1 2, qL 20 19, qF 21 1 3, qL 22 21, oQ 23 (.call (.c (.fn (.func 160) [] [])) [(.t 20), (.t 22)]), qM 4 23])
 .ret)
 (.seq
 (.reg false [2, 3, 24] [
 oQ 25 (.bin .eql (.t 15) (.c (.int .i64 2))), qM 24 25])
 (.cond (.t 24)
 (.seq
 (.reg false [2, 3, 5] [
 qF 26 3 2, qL 27 26, oQ 28 (.len false (.t 27)), qF 29 3 3, qL 30 29, oQ 31 (.len false (.t 30)), oQ 32 (.call (.c (.fn (.func 160) [] [])) [(.t 28), (.t 31)]), qM 5 32])
 (.seq
 (.seq
 (.reg false [2, 3, 5, 34] [
 qM 33 5, oQ 34 (.bin .eql (.t 33) (.c (.int .i64 0)))])
 (.cond (.t 34)
 (.reg false [2, 3, 5] [
 qF 35 2 2, qL 36 35, qF 37 2 3, qL 38 37, oQ 39 (.call (.c (.fn (.func 159) [] [])) [(.t 36), (.t 38)]), qM 5 39])
 .skip))
 (.seq
 (.seq
 (.reg false [2, 3, 5, 41] [
 qM 40 5, oQ 41 (.bin .eql (.t 40) (.c (.int .i64 0)))])
 (.cond (.t 41)
 (.reg false [5] [
 qF 42 3 2, qL 43 42, qF 44 3 3, qL 45 44, oQ 46 (.call (.c (.fn (.func 110) [] [])) [(.t 43), (.t 45)]), qM 5 46])
 .skip))
 (.seq
 (.reg false [4] [
 qM 47 5, qM 4 47])
 .ret))))
 .skip))))))
 (.seq
 (.reg false [2, 3, 5] [
 qF 48 0 2, qL 49 48, qF 50 0 3, qL 51 50, oQ 52 (.call (.c (.fn (.func 160) [] [])) [(.t 49), (.t 51)]), qM 5 52])
 (.seq
 (.seq
 (.reg false [2, 3, 5, 54] [
 qM 53 5, oQ 54 (.bin .eql (.t 53) (.c (.int .i64 0)))])
 (.cond (.t 54)
 (.reg false [2, 3, 5] [
 qF 55 1 2, qL 56 55, qF 57 1 3, qL 58 57, oQ 59 (.call (.c (.fn (.func 160) [] [])) [(.t 56), (.t 58)]), qM 5 59])
 .skip))
 (.seq
 (.seq
 (.reg false [2, 3, 5, 61] [
 qM 60 5, oQ 61 (.bin .eql (.t 60) (.c (.int .i64 0)))])
 (.cond (.t 61)
 (.reg false [5] [
 qF 62 2 2, qL 63 62, qF 64 2 3, qL 65 64, oQ 66 (.call (.c (.fn (.func 159) [] [])) [(.t 63), (.t 65)]), qM 5 66])
 .skip))
 (.seq
 (.reg false [4] [
 qM 67 5, qM 4 67])
 .ret))))))))
theorem op_constraintref03_Compare (hn : vals.length ≤ 68) (h : SP Tryz.prog true vals bs rc_constraintref03_Compare [.slot 4] Q) : AM.Sem Tryz.prog 161 vals bs Q :=
 Sem.nrm (Sem.of (fn := Tryz.f161) (keeps := [(0, [2, 3]), (1, [2, 3, 5]), (2, [2, 3, 5, 12]), (3, [4]), (4, [2, 3, 15]), (5, [2, 3, 15, 16]), (6, [2, 3, 15, 16]), (8, [2, 3, 24]), (9, [2, 3, 5]), (10, [2, 3, 5, 34]), (11, [2, 3, 5]), (12, [2, 3, 5, 41]), (13, [5]), (14, [4]), (7, [4]), (15, [2, 3, 5]), (16, [2, 3, 5, 54]), (17, [2, 3, 5]), (18, [2, 3, 5, 61]), (19, [5]), (20, [4])]) (solo := []) Tryz.func161 rfl (by kernel_rfl) (by kernel_rfl) (by kernel_rfl) hn (run_gp h))
def rc_constraintref03_class : RC :=
 (.seq
 (.reg false [1] [
 oQ 1 (.box (.t 0)), oQ 2 (.mov (.c (.int .i64 0)))])
 (.seq
 (.seq
 (.reg false [4] [
 qF 3 0 1, qL 4 3])
 (.block 0
 (.seq
 (.reg false [4, 5] [
 oQ 6 (.bin .eql (.t 4) (.c (.int .i64 1))), qM 5 6])
 (.cond (.t 5)
 (.seq
 (.reg false [2] [
 oQ 2 (.mov (.c (.int .i64 0)))])
 .ret)
 (.seq
 (.reg false [4, 7] [
 oQ 8 (.bin .eql (.t 4) (.c (.int .i64 0))), qM 7 8])
 (.cond (.t 7)
 (.seq
 (.reg false [2] [
 oQ 2 (.mov (.c (.int .i64 1)))])
 .ret)
 (.seq
 (.reg false [9] [
 oQ 10 (.bin .eql (.t 4) (.c (.int .i64 2))), qM 9 10])
 (.cond (.t 9)
 (.seq
 (.reg false [2] [
 oQ 2 (.mov (.c (.int .i64 2)))])
 .ret)
 .skip))))))))
 (.seq
 (.reg false [2] [
 oQ 2 (.mov (.c (.int .i64 3)))])
 .ret)))
theorem op_constraintref03_class (hn : vals.length ≤ 11) (h : SP Tryz.prog true vals bs rc_constraintref03_class [.slot 2] Q) : AM.Sem Tryz.prog 203 vals bs Q :=
 Sem.nrm (Sem.of (fn := Tryz.f203) (keeps := [(0, [1]), (1, [4]), (2, [4, 5]), (4, [4, 7]), (6, [9]), (7, [2]), (5, [2]), (3, [2]), (8, [2])]) (solo := []) Tryz.func203 rfl (by kernel_rfl) (by kernel_rfl) (by kernel_rfl) hn (run_gp h))
def rc_constraintref03_texts : RC :=
 (.seq
 (.reg false [0, 1] [
 oQ 4 (.mov (.c (.int .i64 0)))])
 (.seq
 (.block 0
 (.seq
 (.reg false [0, 1, 5] [
 qM 6 0, qM 7 1, oQ 8 (.bin .lss (.t 6) (.t 7)), qM 5 8])
 (.cond (.t 5)
 (.seq
 (.reg false [4] [
 oQ 4 (.mov (.c (.int .i64 (-1))))])
 .ret)
 (.seq
 (.reg false [9] [
 qM 10 0, qM 11 1, oQ 12 (.bin .gtr (.t 10) (.t 11)), qM 9 12])
 (.cond (.t 9)
 (.seq
 (.reg false [4] [
 oQ 4 (.mov (.c (.int .i64 1)))])
 .ret)
 .skip)))))
 (.seq
 (.reg false [4] [
 oQ 4 (.mov (.c (.int .i64 0)))])
 .ret)))
theorem op_constraintref03_texts (hn : vals.length ≤ 13) (h : SP Tryz.prog true vals bs rc_constraintref03_texts [.slot 4] Q) : AM.Sem Tryz.prog 159 vals bs Q :=
 Sem.nrm (Sem.of (fn := Tryz.f159) (keeps := [(0, [0, 1]), (1, [0, 1, 5]), (3, [9]), (4, [4]), (2, [4]), (5, [4])]) (solo := []) Tryz.func159 rfl (by kernel_rfl) (by kernel_rfl) (by kernel_rfl) hn (run_gp h))
def rc_constraintref03_ints : RC :=
 (.seq
 (.reg false [0, 1] [
 oQ 4 (.mov (.c (.int .i64 0)))])
 (.seq
 (.block 0
 (.seq
 (.reg false [0, 1, 5] [
 qM 6 0, qM 7 1, oQ 8 (.bin .lss (.t 6) (.t 7)), qM 5 8])
 (.cond (.t 5)
 (.seq
 (.reg false [4] [
 oQ 4 (.mov (.c (.int .i64 (-1))))])
 .ret)
 (.seq
 (.reg false [9] [
 qM 10 0, qM 11 1, oQ 12 (.bin .gtr (.t 10) (.t 11)), qM 9 12])
 (.cond (.t 9)
 (.seq
 (.reg false [4] [
 oQ 4 (.mov (.c (.int .i64 1)))])
 .ret)
 .skip)))))
 (.seq
 (.reg false [4] [
 oQ 4 (.mov (.c (.int .i64 0)))])
 .ret)))
theorem op_constraintref03_ints (hn : vals.length ≤ 13) (h : SP Tryz.prog true vals bs rc_constraintref03_ints [.slot 4] Q) : AM.Sem Tryz.prog 160 vals bs Q :=
 Sem.nrm (Sem.of (fn := Tryz.f160) (keeps := [(0, [0, 1]), (1, [0, 1, 5]), (3, [9]), (4, [4]), (2, [4]), (5, [4])]) (solo := []) Tryz.func160 rfl (by kernel_rfl) (by kernel_rfl) (by kernel_rfl) hn (run_gp h))
def rc_constraintref03_lists : RC :=
 (.seq
 (.reg false [0, 1] [
 oQ 4 (.mov (.c (.int .i64 0)))])
 (.seq
 (.seq
 (.reg false [0, 1, 5] [
 oQ 5 (.mov (.c (.int .i64 0)))])
 (.block 0
 (.loop
 (.seq
 (.seq
 (.reg false [0, 1, 5, 16] [
 qM 7 5, qM 8 0, oQ 9 (.len false (.t 8)), oQ 10 (.bin .lss (.t 7) (.t 9)), qM 11 10, oG 12 11 true (.mov (.t 5)), oG 13 11 true (.mov (.t 1)), oG 14 11 true (.len false (.t 13)), oG 15 11 true (.bin .lss (.t 12) (.t 14)), oQ 16 (.pick (.t 11) (.t 15) (.c (.bool false)))])
 (.cond (.t 16)
 .skip
 (.exit 0)))
 (.seq
 (.block 1
 (.seq
 (.reg true [0, 1, 5, 6] [
 qM 19 0, qM 20 5, qI 21 4 19 20, qA 22 4 21, qM 23 1, qM 24 5, qI 25 4 23 24, qA 26 4 25, oQ 27 (.call (.c (.fn (.func 161) [] [])) [(.t 22), (.t 26)]), oQ 6 (.take 27)])
 (.seq
 (.reg false [0, 1, 5, 6, 29] [
 qM 28 6, oQ 29 (.bin .neq (.t 28) (.c (.int .i64 0)))])
 (.cond (.t 29)
 (.seq
 (.reg false [4] [
 qM 30 6, qM 4 30])
 .ret)
 .skip))))
 (.reg false [0, 1, 5] [
 qM 17 5, oQ 18 (.bin .add (.t 17) (.c (.int .i64 1))), qM 5 18]))))))
 (.seq
 (.reg false [4] [
 qM 31 0, oQ 32 (.len false (.t 31)), qM 33 1, oQ 34 (.len false (.t 33)), oQ 35 (.call (.c (.fn (.func 160) [] [])) [(.t 32), (.t 34)]), qM 4 35])
 .ret)))
theorem op_constraintref03_lists (hn : vals.length ≤ 36) (h : SP Tryz.prog true vals bs rc_constraintref03_lists [.slot 4] Q) : AM.Sem Tryz.prog 110 vals bs Q :=
 Sem.nrm (Sem.of (fn := Tryz.f110) (keeps := [(0, [0, 1]), (1, [0, 1, 5]), (2, [0, 1, 5, 16]), (4, [0, 1, 5, 6]), (5, [0, 1, 5, 6, 29]), (6, [4]), (3, [0, 1, 5]), (7, [4])]) (solo := []) Tryz.func110 rfl (by kernel_rfl) (by kernel_rfl) (by kernel_rfl) hn (run_gp h))
def rc_constraintref03_weigh : RC :=
 (.seq
 (.reg false [0, 1, 2] [
 oQ 6 (.mov (.c (.int .i64 0)))])
 (.seq
 (.seq
 (.reg false [0, 1, 2, 15] [
 qM 8 2, oQ 9 (.bin .eql (.t 8) (.c (.int .i64 0))), qM 10 9, oG 11 10 false (.mov (.t 0)), oG 12 10 false (.len false (.t 11)), oG 13 10 false (.mov (.t 1)), oG 14 10 false (.bin .gtr (.t 12) (.t 13)), oQ 15 (.pick (.t 10) (.c (.bool true)) (.t 14))])
 (.cond (.t 15)
 (.seq
 (.reg false [6] [
 oQ 6 (.mov (.c (.int .i64 (-1))))])
 .ret)
 .skip))
 (.seq
 (.seq
 (.reg false [0, 1, 2, 7] [
 oQ 7 (.mov (.c (.int .i64 0)))])
 (.block 0
 (.loop
 (.seq
 (.seq
 (.reg false [0, 1, 2, 7, 23] [
 qM 16 7, qM 17 0, oQ 18 (.len false (.t 17)), oQ 19 (.bin .lss (.t 16) (.t 18)), qM 20 19, oG 21 20 true (.mov (.t 1)), oG 22 20 true (.bin .geq (.t 21) (.c (.int .i64 0))), oQ 23 (.pick (.t 20) (.t 22) (.c (.bool false)))])
 (.cond (.t 23)
 .skip
 (.exit 0)))
 (.seq
 (.block 1
 (.reg true [0, 1, 2, 7] [
 qM 26 0, qM 27 7, qI 28 4 26 27, qF 29 3 28, qL 30 29, qM 31 1, oQ 32 (.bin .sub (.t 31) (.c (.int .i64 1))), qM 33 0, qM 34 7, qI 35 4 33 34, qF 36 2 35, qL 37 36, oQ 38 (.len true (.t 37)), oQ 39 (.bin .quo (.t 38) (.c (.int .i64 8))), oQ 40 (.bin .sub (.t 32) (.t 39)), qM 41 2, oQ 42 (.bin .sub (.t 41) (.c (.int .i64 1))), oQ 43 (.call (.c (.fn (.func 93) [] [])) [(.t 30), (.t 40), (.t 42)]), oQ 1 (.take 43)]))
 (.reg false [0, 1, 2, 7] [
 qM 24 7, oQ 25 (.bin .add (.t 24) (.c (.int .i64 1))), qM 7 25]))))))
 (.seq
 (.reg false [6] [
 qM 44 1, qM 6 44])
 .ret))))
theorem op_constraintref03_weigh (hn : vals.length ≤ 45) (h : SP Tryz.prog true vals bs rc_constraintref03_weigh [.slot 6] Q) : AM.Sem Tryz.prog 93 vals bs Q :=
 Sem.nrm (Sem.of (fn := Tryz.f93) (keeps := [(0, [0, 1, 2]), (1, [0, 1, 2, 15]), (2, [6]), (3, [0, 1, 2, 7]), (4, [0, 1, 2, 7, 23]), (6, [0, 1, 2, 7]), (5, [0, 1, 2, 7]), (7, [6])]) (solo := []) Tryz.func93 rfl (by kernel_rfl) (by kernel_rfl) (by kernel_rfl) hn (run_gp h))
end Go.CK
namespace Go.AM
open Go.CK Go.RowKit
def rowF {α : Type} (f : α -> AV) (z k : Nat) (l : List α) : Box := .row (cellsOf (l.map f) ++ List.replicate ((k - l.length) * z) .top)
structure Plain {α : Type} (f : α -> AV) (z : Nat) : Prop where
 pos : 0 < z
 sz : ∀ x, (f x).cells.length = z
 de : ∀ x, ∀ c ∈ (f x).cells, c.deown = c
 flat : ∀ x, ∀ c ∈ (f x).cells, c.flat1 = true
theorem mem_cellsOf : ∀ {l : List AV} {c : AV}, c ∈ cellsOf l -> ∃ x ∈ l, c ∈ x.cells
 | [], _, h => by cases h
 | x :: l, c, h => by
  rcases List.mem_append.1 h with h | h
  ·exact ⟨x, by simp, h⟩
  ·obtain ⟨y, h1, h2⟩ := mem_cellsOf h; exact ⟨y, by simp [h1], h2⟩
section
variable {α : Type} {f : α -> AV} {z : Nat}
theorem Plain.len (h : Plain f z) (l : List α) : (cellsOf (l.map f)).length = l.length * z := by
 rw [cellsOf_length (z := z) fun y hy => by obtain ⟨x, _, rfl⟩ := List.mem_map.1 hy; exact h.sz x, List.length_map]
theorem Plain.mem (h : Plain f z) {l : List α} {c : AV} (hc : c ∈ cellsOf (l.map f)) : c.deown = c ∧ c.flat1 = true := by
 obtain ⟨y, h1, h2⟩ := mem_cellsOf hc; obtain ⟨x, _, rfl⟩ := List.mem_map.1 h1; exact ⟨h.de x c h2, h.flat x c h2⟩
theorem Plain.take (h : Plain f z) (l : List α) (p : List AV) : (cellsOf (l.map f) ++ p).take (l.length * z) = cellsOf (l.map f) := by
 rw [← h.len l]; simp
theorem rowAt_row {bs : List Box} {b : Nat} {cs : List AV} (h : bs[b]? = some (.row cs)) : rowAt bs b = some cs := by
 unfold rowAt; rw [h]
theorem srcK_row {bs : List Box} {b m k : Nat} {cs : List AV} {K : Nat -> Nat -> List AV -> Option Nat -> Prop} (h : bs[b]? = some (.row cs)) (k' : K m k cs (some b)) : srcK bs (.bsl b m k) K := by
 simp only [srcK, rowAt_row h]; exact k'
theorem AppN.row (hp : Plain f z) {e : List (Nat × AV)} {bs : List Box} {lo : Nat} {b m k : Nat} {l l' : List α} {o : Cap} {K : AV -> St -> Prop} (hb : bs[b]? = some (rowF f z k l)) (hm : m = l.length) (hk : m ≤ k) (hlim : m + l'.length ≤ 4294967296)
  (h : ∀ k', (l ++ l').length ≤ k' -> K (.bsl bs.length (l ++ l').length k') ⟨e, bs.set b .dead ++ [rowF f z k' (l ++ l')], lo⟩) : AppN z ⟨e, bs, lo⟩ (.bsl b m k) (.sl o (l'.map f)) K := by
 subst hm; refine ⟨srcK_row hb ?_⟩; refine ⟨fun y hy => by obtain ⟨x, _, rfl⟩ := List.mem_map.1 hy; exact hp.sz x, ?_⟩
 rw [List.length_map]; refine ⟨⟨hp.pos, ?_, hlim, fun x hx => ?_⟩, fun k' hk' => ?_⟩
 ·rw [List.length_append, hp.len, List.length_replicate, ← Nat.add_mul]; exact Nat.mul_le_mul_right _ (by omega)
 ·rw [hp.take] at hx; exact (hp.mem hx).1
 ·rw [hp.take, ← List.append_assoc, ← cellsOf_append, ← List.map_append]; have := h k' (by simpa using hk')
  simp only [List.length_append] at this; unfold rowF at this; simp only [List.length_append] at this; exact this
theorem MkN.row (hp : Plain f z) (x : α) {e : List (Nat × AV)} {bs : List Box} {lo : Nat} {ik jk : IntKind} {n m : Int} {K : AV -> St -> Prop} (hn : 0 ≤ n ∧ n ≤ m ∧ m ≤ 4294967296) (h : K (.bsl bs.length n.toNat m.toNat) ⟨e, bs ++ [rowF f z m.toNat (List.replicate n.toNat x)], lo⟩) : MkN z (f x) ⟨e, bs, lo⟩ (.int ik n) (.int jk m) K := by
 refine ⟨⟨⟨hp.pos, hn⟩, ?_⟩⟩; simpa only [rowF, List.map_replicate, List.length_replicate] using h
theorem RS.rowNil {E : Entry} {G : Gh} {s : St} {a : Act} {w : World} (h : RS E G s a w) : RS E G ⟨s.env, s.bs ++ [.row []], s.lo⟩ a w := by
 have := h.reb (bs' := s.bs ++ [.row []]) (σ' := G.σ) id (by simp) (fun _ _ => rfl) (fun b x hb => boxLoop_append rfl hb) (fun b cs' hc => by
  rw [boxCells_append] at hc; split at hc
  ·cases hc
  ·exact ⟨cs', hc, rfl, Nat.le_refl _, fun j x hx => .inr ⟨hx, .inl rfl⟩⟩) (fun b b' _ _ _ _ e => e)
 exact this
theorem Weak.toRow (s : St) (t : Nat) (h0 : envGet s.env t = some (.sl .full [])) : Weak s ⟨envPut s.env t (.bsl s.bs.length 0 0), s.bs ++ [.row []], s.lo⟩ := fun E G a w hs => by
 have h1 := hs.rowNil; have hat : (⟨s.env, s.bs ++ [.row []], s.lo⟩ : St).at (.sl t) = some (.sl .full []) := h0; have hv := h1.val _ _ hat; simp only [AV.deown] at hv; refine ⟨G, h1.upd (q := .sl t) hat ?_⟩; obtain ⟨ad, kk, B, off, sz', e1, _, _, _, e2, _⟩ := hv.inv_sl; have := e2 rfl; subst this; rw [e1]; exact .bsl _ _ _ _ (by simp) (Nat.le_refl _) (Nat.zero_le _) (fun h => absurd rfl h)
theorem RetP.toRow {s : St} {rs : List RRes} {Q : AV -> List Box -> Prop} (k : Nat) (h0 : envGet s.env k = some (.sl .full [])) (h : RetP ⟨envPut s.env k (.bsl s.bs.length 0 0), s.bs ++ [.row []], s.lo⟩ rs Q) : RetP s rs Q := by
 obtain ⟨s', h3, h4⟩ := h.out; exact ⟨s', (Weak.toRow s k h0).trans h3, h4⟩
theorem Elems.ofCells {M : Hp} {B : Nat} {L : List AV} {p : List AV} (hz : ∀ y ∈ L, y.cells.length = z) (h : Cells M B 0 (cellsOf L ++ p)) : Elems M B 0 z L := fun i hi => by
 have hl := cellsOf_length hz; have hc := hz _ (List.getElem_mem hi); refine ⟨hc, fun j hj => ?_⟩
 have hij : i * z + j < (cellsOf L).length := by
  rw [hl]; have := Nat.mul_le_mul_right z hi; rw [Nat.succ_mul] at this; omega
 obtain ⟨v, h1, h2, h3⟩ := h (i * z + j) (by rw [List.length_append]; omega)
 refine ⟨v, ?_, h2, ?_⟩
 ·rw [Nat.zero_add] at h1 ⊢; exact h1
 ·rw [List.getElem_append_left hij] at h3; have hg := cellsOf_get hz i hi j (by omega)
  rw [List.getElem?_eq_getElem hij, List.getElem?_eq_getElem hj] at hg; rw [← Option.some.inj hg]; exact h3
end
section
variable {E : Entry} {G : Gh} {s : St} {a : Act} {w : World}
end
theorem RetP.slot {s : St} {t : Nat} {Q : AV -> List Box -> Prop} (h : Q (s.get t) s.bs) : RetP s [.slot t] Q := ⟨s, Weak.refl s, .inl h⟩
theorem plainI : Plain (AV.int .i64) 1 := ⟨Nat.zero_lt_one, fun _ => rfl, fun x c h => by simp [AV.cells] at h; subst h; rfl, fun x c h => by simp [AV.cells] at h; subst h; rfl⟩
theorem cells_one {α : Type} {f : α -> AV} (hf : ∀ x, (f x).cells = [f x]) (l : List α) : cellsOf (l.map f) = l.map f := by
 induction l with
 | nil => rfl
 | cons x l ih => rw [List.map_cons, cellsOf, ih, hf]; rfl
theorem rowO_cells {α : Type} {f : α -> AV} (hf : ∀ x, (f x).cells = [f x]) {bs : List Box} {b k i : Nat} {l : List α} {x : α} (hb : bs[b]? = some (rowF f 1 k l)) (hx : l[i]? = some x) : boxCells bs b = some (l.map f ++ List.replicate (k - l.length) AV.top) := by
 have hrow : bs[b]? = some (.row (l.map f ++ List.replicate (k - l.length) AV.top)) := by
  rw [hb]; simp only [rowF, cells_one hf, Nat.mul_one]
 refine rowAt_cells (rowAt_row hrow) fun e => ?_; have := congrArg List.length e; rw [List.length_append, List.length_map, List.length_nil] at this; have hi := (List.getElem?_eq_some_iff.1 hx).1; omega
theorem ElN.one {α : Type} {f : α -> AV} (hf : ∀ x, (f x).cells = [f x] ∧ (f x).deown = f x) {e : List (Nat × AV)} {bs : List Box} {lo b k i : Nat} {l : List α} {x : α} {K : AV -> Prop} (hb : bs[b]? = some (rowF f 1 k l)) (hx : l[i]? = some x) (h : K (f x)) : ElN false 1 ⟨e, bs, lo⟩ (.elp b i 1 0) K := by
 refine ⟨?_⟩; have hi := (List.getElem?_eq_some_iff.1 hx).1; simp only [St.rd, rowO_cells (fun x => (hf x).1) hb hx, Nat.mul_one, Nat.add_zero]; rw [List.drop_append_of_le_length (by rw [List.length_map]; omega), ← List.map_drop, List.drop_eq_getElem_cons hi, (List.getElem?_eq_some_iff.1 hx).2]
 simp only [List.map_cons, List.cons_append, loadK, (hf x).2]; exact h
theorem RS.thaw {α : Type} {f : α -> AV} {z : Nat} (hp : Plain f z) {E : Entry} {G : Gh} {s : St} {a : Act} {w : World} (hs : RS E G s a w) {b k0 : Nat} {l : List α} (hb : s.bs[b]? = some (rowF f z k0 l)) :
  ∃ G', RS E G' ⟨s.env, s.bs.set b .dead, s.lo⟩ a w ∧ G'.σ = G.σ ∧ ∀ (m k : Nat) (v : Value), m ≤ l.length -> RV G.M G.σ s.bs.length (.bsl b m k) v -> FV G'.M (.sl .no ((l.take m).map f)) v := by
 have hz : ∀ y ∈ l.map f, y.cells.length = z := fun y hy => by obtain ⟨x, _, rfl⟩ := List.mem_map.1 hy; exact hp.sz x
 by_cases hne : cellsOf (l.map f) ++ List.replicate ((k0 - l.length) * z) AV.top = []
 ·have hl : l = [] := by
   have := congrArg List.length hne; rw [List.length_append, hp.len, List.length_nil] at this; have h0 := hp.pos
   cases l with
   | nil => rfl
   | cons x l => simp only [List.length_cons, Nat.succ_mul] at this; omega
  subst hl
  have h1 := hs.reb (bs' := s.bs.set b .dead) (σ' := G.σ) id (by simp) (fun _ _ => rfl) (fun c x hc => boxLoop_kill hc) (fun c cs' hc => by
   rw [boxCells_setDead] at hc; split at hc
   ·cases hc
   ·exact ⟨cs', hc, rfl, Nat.le_refl _, fun j x hx => .inr ⟨hx, .inl rfl⟩⟩) (fun b b' _ _ _ _ e => e)
  refine ⟨_, h1, rfl, fun m k v hm hv => ?_⟩; simp only [List.length_nil, Nat.le_zero] at hm; subst hm; obtain ⟨ad, rfl, _, _, _, _⟩ := hv.inv_bsl; exact FV.mk_sl (l := []) (B := 0) (off := 0) (sz := z) (by simp) (Nat.zero_le _) (Nat.zero_le _) (by simp) (fun h => absurd rfl h) (fun i hi => by cases hi)
 ·have hbc : boxCells s.bs b = some (cellsOf (l.map f) ++ List.replicate ((k0 - l.length) * z) .top) := rowAt_cells (rowAt_row hb) hne
  obtain ⟨G', h1, h2, h3⟩ := hs.dead hbc (fun x hx => by
   rcases List.mem_append.1 hx with hx | hx
   ·exact (hp.mem hx).2
   ·rw [(List.mem_replicate.1 hx).2]; rfl)
  refine ⟨G', h1, h2, fun m k v hm hv => ?_⟩; obtain ⟨ad, rfl, _, hmk, hml, had⟩ := hv.inv_bsl; have he := elems_slice (Elems.ofCells hz h3) 0 m (by simpa using hm)
  simp only [Nat.zero_mul, Nat.add_zero, List.drop_zero, ← List.map_take] at he; have hlen : ((l.take m).map f).length = m := by simp; omega
  have := FV.mk_sl (M := G'.M) (o := .no) (l := (l.take m).map f) (a := ad) (k := k) (B := G.σ b) (off := 0) (sz := z) (by simp) (by omega) (by rw [hlen];first|exact hml|exact glim_le hml) (by simp) (fun h0 => had (fun e => by
   subst e; have : m = 0 := by omega
   subst this; simp at h0)) he
  rw [hlen] at this; exact this
theorem Weak.frozeBx {α : Type} {f : α -> AV} {z : Nat} (hp : Plain f z) (s : St) (c i : Nat) {cs : List AV} {b m k k0 : Nat} {l : List α} (h0 : s.bs[c]? = some (.cells cs)) (hi : cs[i]? = some (.bsl b m k)) (hb : s.bs[b]? = some (rowF f z k0 l)) (hm : m ≤ l.length) : Weak s ⟨s.env, (s.bs.set b .dead).set c (.cells (cs.set i (.sl .no ((l.take m).map f)))), s.lo⟩ := fun E G a w hs => by
 have hcb : c ≠ b := fun e => by subst e; rw [h0] at hb; cases hb
 have hbc : boxCells s.bs c = some cs := by simp only [boxCells, h0]; rfl
 have hbc' : boxCells (s.bs.set b .dead) c = some cs := by rw [boxCells_setDead, if_neg hcb]; exact hbc
 have hat : s.at (.bx c i) = some (.bsl b m k) := by simp only [St.at, hbc, Option.bind_some]; exact hi
 have hv0 := hs.val _ _ hat; have hde : (AV.bsl b m k).deown = .bsl b m k := rfl; rw [hde] at hv0; obtain ⟨G', h1, hσ, hth⟩ := hs.thaw hp hb; have hfv := hth m k _ hm hv0; have hat' : (⟨s.env, s.bs.set b .dead, s.lo⟩ : St).at (.bx c i) = some (.bsl b m k) := by simp only [St.at, hbc', Option.bind_some]; exact hi
 have h2 := h1.upd (q := .bx c i) (x := .sl .no ((l.take m).map f)) hat' (by
  show RV G'.M G'.σ _ _ (valAt G'.σ a w (.bx c i)); have hva : valAt G'.σ a w (.bx c i) = valAt G.σ a w (.bx c i) := by simp only [valAt, hσ]
  rw [hva]; exact .flat hfv)
 refine ⟨G', ?_⟩; have e : (⟨s.env, s.bs.set b .dead, s.lo⟩ : St).upd (.bx c i) (.sl .no ((l.take m).map f)) = ⟨s.env, (s.bs.set b .dead).set c (.cells (cs.set i (.sl .no ((l.take m).map f)))), s.lo⟩ := by simp only [St.upd, hbc', St.setBox]
 rw [← e]; exact h2
theorem RetP.frozeBx {α : Type} {f : α -> AV} {z : Nat} (hp : Plain f z) {s : St} (c i : Nat) {cs : List AV} {b m k k0 : Nat} {l : List α} {rs : List RRes} {Q : AV -> List Box -> Prop} (h0 : s.bs[c]? = some (.cells cs)) (hi : cs[i]? = some (.bsl b m k)) (hb : s.bs[b]? = some (rowF f z k0 l)) (hm : m ≤ l.length) (h : RetP ⟨s.env, (s.bs.set b .dead).set c (.cells (cs.set i (.sl .no ((l.take m).map f)))), s.lo⟩ rs Q) : RetP s rs Q := by
 obtain ⟨s', h3, h4⟩ := h.out; exact ⟨s', (Weak.frozeBx hp s c i h0 hi hb hm).trans h3, h4⟩
theorem NilN.no {l : List AV} {K : Bool -> Prop} (h : ∀ b, (b = true -> l = []) -> K b) : NilN l K := ⟨fun hl => h false (fun e => by cases e), fun hl b => h b fun _ => hl⟩
end Go.AM
namespace Go.CK
open Go.RowKit
inductive Tm where
 | mk (kind num : Int) (name : ByteArray) (args : List Tm)
namespace Tm
def kind : Tm -> Int | .mk k _ _ _ => k
def num : Tm -> Int | .mk _ n _ _ => n
def name : Tm -> ByteArray | .mk _ _ s _ => s
def args : Tm -> List Tm | .mk _ _ _ l => l
mutual
def beq : Tm -> Tm -> Bool
 | .mk k n s l, .mk k' n' s' l' => decide (k = k') && (decide (n = n') && (decide (s = s') && beqs l l'))
def beqs : List Tm -> List Tm -> Bool
 | [], [] => true
 | a :: l, b :: m => beq a b && beqs l m
 | _, _ => false
end
mutual
theorem beq_iff : ∀ a b : Tm, beq a b = true ↔ a = b
 | .mk k n s l, .mk k' n' s' l' => by
  simp only [beq, Bool.and_eq_true, decide_eq_true_eq, beqs_iff l l', Tm.mk.injEq]
theorem beqs_iff : ∀ l m : List Tm, beqs l m = true ↔ l = m
 | [], [] => by simp [beqs]
 | [], _ :: _ => by simp [beqs]
 | _ :: _, [] => by simp [beqs]
 | a :: l, b :: m => by simp [beqs, beq_iff a b, beqs_iff l m]
end
instance : DecidableEq Tm := fun a b => decidable_of_iff (beq a b = true) (beq_iff a b)
end Tm
mutual
theorem Tm.ind_all {p : Tm -> Prop} (h : ∀ k n s l, (∀ t ∈ l, p t) -> p (.mk k n s l)) : ∀ t, p t
 | .mk k n s l => h k n s l (Tm.ind_list h l)
theorem Tm.ind_list {p : Tm -> Prop} (h : ∀ k n s l, (∀ t ∈ l, p t) -> p (.mk k n s l)) : ∀ l : List Tm, ∀ t ∈ l, p t
 | [], _, ht => by cases ht
 | a :: l, t, ht => by
  exact (List.mem_cons.1 ht).elim (fun e => e ▸ Tm.ind_all h a) (fun h1 => Tm.ind_list h l t h1)
end
inductive RTm (H : Hp) : List Value -> Tm -> Prop
 | mk (k n : Int) (s : ByteArray) (a : Option Addr) (cap : Nat) (args : List Tm) (es : Nat -> List Value) (bo : Nat × Nat)
  (hk : IntOk k) (hn : IntOk n) (hs : s.size ≤ lim) (hl : args.length ≤ lim) (hc : args.length ≤ cap) (ha : 0 < args.length -> a = some ⟨bo.1, bo.2, none⟩)
  (hsz : ∀ i, i < args.length -> (es i).length = 4) (hcell : ∀ i, i < args.length -> ∀ j x, (es i)[j]? = some x -> H bo.1 (bo.2 + i * 4 + j) = some x)
  (hr : ∀ i (h : i < args.length), RTm H (es i) args[i]) :
  RTm H [.int .i64 k, .int .i64 n, .string s, .slice a args.length cap] (.mk k n s args)
abbrev RTms (H : Hp) (a : Option Addr) (l : List Tm) : Prop := Sl H 4 (RTm H) a l
theorem RTm.inv {H : Hp} {cs : List Value} {k n : Int} {s : ByteArray} {l : List Tm} (h : RTm H cs (.mk k n s l)) :
  ∃ a cap, cs = [.int .i64 k, .int .i64 n, .string s, .slice a l.length cap] ∧ IntOk k ∧ IntOk n ∧ s.size ≤ lim ∧ l.length ≤ cap ∧ RTms H a l := by
 cases h with
 | mk k n s a cap args es bo hk hn hs hl hc ha hsz hcell hr =>
  exact ⟨a, cap, rfl, hk, hn, hs, hc, ⟨hl, fun i hi => ⟨bo.1, bo.2, es i, ha (by omega), hsz i hi, hcell i hi, hr i hi⟩⟩⟩
theorem RTm.intro {H : Hp} {k n : Int} {s : ByteArray} {a : Option Addr} {cap : Nat} {l : List Tm} (hk : IntOk k) (hn : IntOk n) (hs : s.size ≤ lim) (hc : l.length ≤ cap) (h : RTms H a l) :
  RTm H [.int .i64 k, .int .i64 n, .string s, .slice a l.length cap] (.mk k n s l) := by
 by_cases h0 : 0 < l.length
 ·obtain ⟨b, o, ha⟩ := h.addr h0; subst ha
  have hx : ∀ i, ∃ cs : List Value, i < l.length -> cs.length = 4 ∧ (∀ j x, cs[j]? = some x -> H b (o + i * 4 + j) = some x) ∧ ∀ hi : i < l.length, RTm H cs l[i] := by
   intro i
   by_cases hi : i < l.length
   ·obtain ⟨b', o', cs, h1, h2, h3, h4⟩ := h.at_ i hi; simp only [Option.some.injEq, Addr.mk.injEq, and_true] at h1; obtain ⟨rfl, rfl⟩ := h1; exact ⟨cs, fun _ => ⟨h2, h3, fun _ => h4⟩⟩
   ·exact ⟨[], fun e => (hi e).elim⟩
  exact .mk k n s _ cap l (fun i => (hx i).choose) (b, o) hk hn hs h.le hc (fun _ => rfl) (fun i hi => ((hx i).choose_spec hi).1) (fun i hi => ((hx i).choose_spec hi).2.1) (fun i hi => ((hx i).choose_spec hi).2.2 hi)
 ·exact .mk k n s a cap l (fun _ => []) (0, 0) hk hn hs h.le hc (fun e => (h0 e).elim) (fun i hi => by omega) (fun i hi => by omega) (fun i hi => by omega)
theorem RTm.one {H : Hp} {cs : List Value} {t : Tm} (h : RTm H cs t) : ∀ u ∈ cs, u.oneCell' = true := by
 cases h; simp [Value.oneCell']
end Go.CK
namespace Go.CK
open Go.RowKit
def RInt (_ : Hp) (c : List Value) (n : Int) : Prop := c = [.int .i64 n] ∧ IntOk n
def RSl {α : Type} (sz : Nat) (R : Hp -> List Value -> α -> Prop) (H : Hp) (c : List Value) (l : List α) : Prop := ∃ a k, c = [.slice a l.length k] ∧ l.length ≤ k ∧ Sl H sz (R H) a l
@[ext] structure At where
 name : ByteArray
 args : List Tm
deriving DecidableEq
def RAt (H : Hp) (c : List Value) (x : At) : Prop := ∃ a1 k1, c = [.string x.name, .slice a1 x.args.length k1] ∧ x.name.size ≤ lim ∧ x.args.length ≤ k1 ∧ Sl H 4 (RTm H) a1 x.args
theorem RAt.one {H : Hp} {c : List Value} {x : At} (h : RAt H c x) : ∀ u ∈ c, u.oneCell' = true := by
 obtain ⟨a1, k1, rfl, _h0, _h1, _h2⟩ := h; simp [Value.oneCell']
@[ext] structure Gl where
 op : Int
 name : ByteArray
 args : List Tm
deriving DecidableEq
@[ext] structure Dc where
 name : ByteArray
 arity : Int
deriving DecidableEq
@[ext] structure Rl where
 name : ByteArray
 keep : List At
 remove : List At
 guard : List Gl
 body : List Gl
 vars : Int
deriving DecidableEq
@[ext] structure Pg where
 decls : List Dc
 rules : List Rl
deriving DecidableEq
@[ext] structure Oc where
 rule : Int
 head : Int
 kept : Bool
deriving DecidableEq
@[ext] structure Bd where
 var : Int
 term : Tm
deriving DecidableEq
def RBd (H : Hp) (c : List Value) (x : Bd) : Prop := ∃ c1, c = [.int .i64 x.var] ++ c1 ∧ IntOk x.var ∧ RTm H c1 x.term
theorem RBd.one {H : Hp} {c : List Value} {x : Bd} (h : RBd H c x) : ∀ u ∈ c, u.oneCell' = true := by
 obtain ⟨c1, rfl, _h0, _h1⟩ := h; have q0 := _h1.one; intro u hu; simp only [List.mem_append, List.mem_cons, List.not_mem_nil, or_false] at hu; rcases hu with hu | hu
 all_goals first | exact q0 u hu | (subst hu; rfl) | (rcases hu with hu | hu <;> subst hu <;> rfl) | (rcases hu with hu | hu | hu <;> subst hu <;> rfl)
@[ext] structure It where
 id : Int
 atom : At
deriving DecidableEq
def RIt (H : Hp) (c : List Value) (x : It) : Prop := ∃ c1, c = [.int .i64 x.id] ++ c1 ∧ IntOk x.id ∧ RAt H c1 x.atom
theorem RIt.one {H : Hp} {c : List Value} {x : It} (h : RIt H c x) : ∀ u ∈ c, u.oneCell' = true := by
 obtain ⟨c1, rfl, _h0, _h1⟩ := h; have q0 := _h1.one; intro u hu; simp only [List.mem_append, List.mem_cons, List.not_mem_nil, or_false] at hu; rcases hu with hu | hu
 all_goals first | exact q0 u hu | (subst hu; rfl) | (rcases hu with hu | hu <;> subst hu <;> rfl) | (rcases hu with hu | hu | hu <;> subst hu <;> rfl)
@[ext] structure Ft where
 id : Int
 atom : At
 just : List Int
deriving DecidableEq
@[ext] structure Fr where
 rule : Int
 ids : List Int
deriving DecidableEq
@[ext] structure Fm where
 goal : Gl
 id : Int
 occ : Int
deriving DecidableEq
@[ext] structure Ev where
 kind : Int
 id : Int
 occ : Int
 rule : Int
 ids : List Int
deriving DecidableEq
@[ext] structure Pl where
 occ : Oc
 order : List Int
 known : List (List Int)
 tests : List (List Int)
deriving DecidableEq
@[ext] structure Ac where
 name : ByteArray
 arity : Int
 positions : List Int
deriving DecidableEq
def RAc (H : Hp) (c : List Value) (x : Ac) : Prop := ∃ a1 k1, c = [.string x.name, .int .i64 x.arity, .slice a1 x.positions.length k1] ∧ x.name.size ≤ lim ∧ IntOk x.arity ∧ x.positions.length ≤ k1 ∧ Sl H 1 (RInt H) a1 x.positions
theorem RAc.one {H : Hp} {c : List Value} {x : Ac} (h : RAc H c x) : ∀ u ∈ c, u.oneCell' = true := by
 obtain ⟨a1, k1, rfl, _h0, _h1, _h2, _h3⟩ := h; simp [Value.oneCell']
@[ext] structure Ky where
 name : ByteArray
 arity : Int
 positions : List Int
deriving DecidableEq
@[ext] structure Ak where
 rule : Int
 head : Int
 done : List Int
deriving DecidableEq
@[ext] structure Ct where
 rules : List Int
 tried : Int
 goals : Int
 steps : Int
deriving DecidableEq
end Go.CK
namespace Go.CK
open Go.RowKit Go.AM
abbrev intA (n : Int) : AV := .int .i64 n
abbrev slA {α : Type} (f : α -> AV) (l : List α) : AV := .sl .no (l.map f)
def CF (M : Hp) (cs : List AV) (c : List Value) : Prop := c.length = cs.length ∧ ∀ j (h : j < cs.length) v, c[j]? = some v -> FV M cs[j] v
theorem CF.nil {M : Hp} : CF M [] [] := ⟨rfl, fun j h => by cases h⟩
theorem CF.cons {M : Hp} {x : AV} {cs : List AV} {v : Value} {c : List Value} (h : FV M x v) (k : CF M cs c) : CF M (x :: cs) (v :: c) :=
 ⟨by simp [k.1], fun j hj u hu => by
  cases j with
  | zero => simp only [List.getElem?_cons_zero, Option.some.injEq] at hu; subst hu; exact h
  | succ j => exact k.2 j (by simpa using hj) u (by simpa using hu)⟩
theorem CF.app {M : Hp} {cs ds : List AV} {c d : List Value} (h : CF M cs c) (k : CF M ds d) : CF M (cs ++ ds) (c ++ d) := by
 refine ⟨by simp [h.1, k.1], fun j hj u hu => ?_⟩
 by_cases e : j < cs.length
 ·rw [List.getElem?_append_left (by rw [h.1]; exact e)] at hu
  rw [List.getElem_append_left e]; exact h.2 j e u hu
 ·rw [List.getElem?_append_right (by rw [h.1]; omega)] at hu
  rw [List.getElem_append_right (by omega)]
  have := k.2 (j - cs.length) (by simp at hj; omega) u (by rw [h.1] at hu; exact hu)
  exact this
theorem CF.agg {M : Hp} {cs : List AV} {c : List Value} (h : CF M cs c) (h1 : ∀ u ∈ c, u.oneCell' = true) : FV M (.agg cs) (.agg c.toArray) := .agg cs c h.1 h1 h.2
theorem Sl.fv {α : Type} {R : Hp -> List Value -> α -> Prop} {f : α -> AV} {M : Hp} {sz : Nat} {a : Option Addr} {l : List α} {k : Nat} (h : Sl M sz (R M) a l) (hk : l.length ≤ k) (hR : ∀ x ∈ l, ∀ c, R M c x -> CF M (f x).cells c ∧ ∀ u ∈ c, u.oneCell' = true) : FV M (.sl .no (l.map f)) (.slice a l.length k) := by
 have hlen : (l.map f).length = l.length := by simp
 rw [← hlen]
 by_cases h0 : 0 < l.length
 ·obtain ⟨b, o, ha⟩ := h.addr h0; refine FV.mk_sl (B := b) (off := o) (sz := sz) (fun z e => by cases e) (by rw [hlen]; exact hk) (by rw [hlen]; exact h.le) (fun e => by cases e) (fun _ => ha) (fun i hi => ?_)
  rw [hlen] at hi; obtain ⟨b', o', cs, h1, h2, h3, h4⟩ := h.at_ i hi; rw [ha] at h1; simp only [Option.some.injEq, Addr.mk.injEq, and_true] at h1; obtain ⟨rfl, rfl⟩ := h1; obtain ⟨⟨h5, h6⟩, h7⟩ := hR _ (List.getElem_mem hi) cs h4; rw [List.getElem_map]; refine ⟨by rw [← h5, h2], fun j hj => ?_⟩
  have hj2 : j < cs.length := by rw [h5]; exact hj
  have hj3 : cs[j]? = some cs[j] := List.getElem?_eq_getElem hj2; exact ⟨cs[j], h3 j _ hj3, h7 _ (List.getElem_mem hj2), h6 j hj _ hj3⟩
 ·have : l = [] := List.length_eq_zero_iff.1 (by omega)
  subst this; exact FV.mk_sl (B := 0) (off := 0) (sz := 0) (fun z e => by cases e) (by simp) (by simp) (fun e => by cases e) (fun e => absurd rfl e) (fun i hi => by cases hi)
theorem RInt.cf {M : Hp} {c : List Value} {n : Int} (h : RInt M c n) : CF M (intA n).cells c ∧ ∀ u ∈ c, u.oneCell' = true := by
 obtain ⟨rfl, _⟩ := h; exact ⟨.cons (.int _ _) .nil, by simp [Value.oneCell']⟩
theorem RSl.cf {α : Type} {R : Hp -> List Value -> α -> Prop} {f : α -> AV} {M : Hp} {sz : Nat} {c : List Value} {l : List α} (h : RSl sz R M c l) (hR : ∀ x ∈ l, ∀ c, R M c x -> CF M (f x).cells c ∧ ∀ u ∈ c, u.oneCell' = true) : CF M (slA f l).cells c ∧ ∀ u ∈ c, u.oneCell' = true := by
 obtain ⟨a, k, rfl, h1, h2⟩ := h; exact ⟨.cons (h2.fv h1 hR) .nil, by simp [Value.oneCell']⟩
mutual
def Tm.av : Tm -> AV
 | .mk k n s l => .agg [.int .i64 k, .int .i64 n, .str s, .sl .no (Tm.avs l)]
def Tm.avs : List Tm -> List AV
 | [] => []
 | t :: l => Tm.av t :: Tm.avs l
end
theorem Tm.avs_map : ∀ l : List Tm, Tm.avs l = l.map Tm.av
 | [] => rfl
 | t :: l => by rw [Tm.avs, Tm.avs_map l]; rfl
def Tm.avw (t : Tm) : AV := .agg [.int .i64 t.kind, .int .i64 t.num, .str t.name, .sl .no (t.args.map Tm.av)]
theorem Tm.av_w (t : Tm) : t.av = t.avw := by
 obtain ⟨k, n, s, l⟩ := t; rw [Tm.av, Tm.avs_map]; rfl
theorem Tm.av_cells (t : Tm) : t.av.cells.length = 4 := by rw [Tm.av_w]; rfl
theorem RTm.cf {M : Hp} {c : List Value} {t : Tm} (h : RTm M c t) : CF M t.av.cells c ∧ ∀ u ∈ c, u.oneCell' = true := by
 refine ⟨?_, h.one⟩
 induction t using Tm.ind_all generalizing c with
 | h k n s l ih =>
  obtain ⟨a, cap, rfl, ik, iN, is, ic, hsl⟩ := h.inv; rw [Tm.av, Tm.avs_map]; exact .cons (.int _ _) (.cons (.int _ _) (.cons (.str _ is) (.cons (hsl.fv ic fun x hx c hc => ⟨ih x hx hc, hc.one⟩) .nil)))
end Go.CK
namespace Go.AM
def AV.good (x : AV) : Prop := ∃ M v, FV M x v
end Go.AM
namespace Go.CK
open Go.RowKit Go.AM
theorem good_str {s : ByteArray} (h : (AV.str s).good) : s.size ≤ 9223372036854775807 := by
 obtain ⟨M, v, h⟩ := h
 cases h with
 | str _ h => exact h
theorem good_agg {cs : List AV} (h : (AV.agg cs).good) : ∀ c ∈ cs, c.good := by
 obtain ⟨M, v, h⟩ := h
 cases h with
 | agg _ vs hl h1 hv =>
  intro c hc; obtain ⟨j, hj, rfl⟩ := List.getElem_of_mem hc; exact ⟨M, vs[j], hv j hj _ (List.getElem?_eq_getElem (by omega))⟩
theorem good_sl {o : Cap} {l : List AV} (h : (AV.sl o l).good) : l.length ≤ 9223372036854775807 ∧ ∀ y ∈ l, y.good := by
 obtain ⟨M, v, h⟩ := h; obtain ⟨a, k, B, off, sz, _, _, _, hl, _, _, he⟩ := h.inv_sl; refine ⟨hl, fun y hy => ?_⟩; obtain ⟨i, hi, rfl⟩ := List.getElem_of_mem hy; obtain ⟨_, hc⟩ := he i hi; generalize l[i] = y at hc
 by_cases ha : ∃ cs, y = .agg cs
 ·obtain ⟨cs, rfl⟩ := ha
  have hx : ∀ j, ∃ v : Value, ∀ (h : j < cs.length), v.oneCell' = true ∧ FV M cs[j] v := fun j => by
   by_cases hj : j < cs.length
   ·obtain ⟨v, _, h2, h3⟩ := hc j hj; exact ⟨v, fun _ => ⟨h2, h3⟩⟩
   ·exact ⟨undef, fun h => absurd h hj⟩
  refine ⟨M, .agg (List.ofFn fun j : Fin cs.length => (hx j).choose).toArray, .agg cs _ (by simp) (fun v hv => ?_) (fun j hj v hjv => ?_)⟩
  ·obtain ⟨j, rfl⟩ := List.mem_ofFn.1 hv; exact ((hx j).choose_spec j.2).1
  ·rw [List.getElem?_ofFn, dif_pos hj] at hjv; cases hjv; exact ((hx j).choose_spec hj).2
 ·have h1 : y.cells = [y] := by
   cases y <;> first | rfl | exact absurd ⟨_, rfl⟩ ha
  obtain ⟨v, _, _, h3⟩ := hc 0 (by rw [h1]; simp)
  have : y.cells[0]'(by rw [h1]; simp) = y := by simp [h1]
  rw [this] at h3; exact ⟨M, v, h3⟩
theorem good_sla {α : Type} {f : α -> AV} {l : List α} (h : (AV.sl .no (l.map f)).good) : l.length ≤ 9223372036854775807 ∧ ∀ y ∈ l, (f y).good := by
 obtain ⟨h1, h2⟩ := good_sl h; exact ⟨by simpa using h1, fun y hy => h2 _ (List.mem_map.2 ⟨y, hy, rfl⟩)⟩
theorem good_tm {t : Tm} (h : t.avw.good) : t.name.size ≤ 9223372036854775807 ∧ t.args.length ≤ 9223372036854775807 ∧ ∀ x ∈ t.args, x.avw.good := by
 have hs := good_sla (good_agg h (.sl .no (t.args.map Tm.av)) (by simp))
 exact ⟨good_str (good_agg h (.str t.name) (by simp)), hs.1, fun x hx => by rw [← Tm.av_w]; exact hs.2 x hx⟩
theorem good_tmv {t : Tm} (h : t.av.good) : t.avw.good := by rw [← Tm.av_w]; exact h
theorem Fun.assume {P : Program} {f : FuncId} {vals : List AV} {r : AV} (hf : vals.all AV.flat = true) (h : (∀ x ∈ vals, x.good) -> Fun P f vals r) : Fun P f vals r := fun bs E G a0 w args lo h1 h2 h3 => by
 refine h (fun x hx => ?_) bs E G a0 w args lo h1 h2 h3; obtain ⟨j, hj, rfl⟩ := List.getElem_of_mem hx; have hjv : args[j]? = some (args[j]'(by omega)) := List.getElem?_eq_getElem (by omega)
 exact ⟨G.M, _, (h3 j hj _ hjv).toFV (List.all_eq_true.1 hf _ (List.getElem_mem hj))⟩
theorem IdxN.tmK {l : List Tm} {n : Nat} {K : AV -> Prop} {x : Tm} (h : l[n]? = some x) (k : K x.avw) : IdxN 4 (l.map Tm.av) (n : Int) K := .known (by simpa using h) (by omega) Tm.av_cells (by rw [Tm.av_w]; exact k)
theorem IdxN.tmKI {l : List Tm} {n : Int} {K : AV -> Prop} {x : Tm} (h : l[n.toNat]? = some x) (h0 : 0 ≤ n) (k : K x.avw) : IdxN 4 (l.map Tm.av) n K := .known h h0 Tm.av_cells (by rw [Tm.av_w]; exact k)
theorem IdxN.tm {l : List Tm} {n : Nat} {K : AV -> Prop} (h1 : n < l.length) (k : ∀ x, l[n]? = some x -> K x.avw) : IdxN 4 (l.map Tm.av) (n : Int) K := .mapN h1 Tm.av_cells fun x hx => by rw [Tm.av_w]; exact k x hx
theorem Szs.tm {l : List Tm} : Szs 4 (l.map Tm.av) := .map Tm.av_cells
def At.av (x : At) : AV := .agg [.str x.name, .sl .no (x.args.map Tm.av)]
theorem RAt.cf {M : Hp} {c : List Value} {x : At} (h : RAt M c x) : CF M x.av.cells c ∧ ∀ u ∈ c, u.oneCell' = true := by
 refine ⟨?_, h.one⟩; obtain ⟨a1, k1, rfl, q0, q1, q2⟩ := h; exact (.cons (.str x.name q0) (.cons (q2.fv q1 (fun _ _ _ hc => RTm.cf hc)) .nil))
theorem At.good {x : At} (h : x.av.good) : x.name.size ≤ 9223372036854775807 ∧ (x.args.length ≤ 9223372036854775807 ∧ ∀ y ∈ x.args, y.avw.good) := ⟨good_str (good_agg h (.str x.name) (by simp)), ⟨(good_sla (good_agg h (.sl .no (x.args.map Tm.av)) (by simp))).1, fun y hy => good_tmv ((good_sla (good_agg h (.sl .no (x.args.map Tm.av)) (by simp))).2 y hy)⟩⟩
def Bd.av (x : Bd) : AV := .agg [.int .i64 x.var, .int .i64 x.term.kind, .int .i64 x.term.num, .str x.term.name, .sl .no (x.term.args.map Tm.av)]
theorem RBd.cf {M : Hp} {c : List Value} {x : Bd} (h : RBd M c x) : CF M x.av.cells c ∧ ∀ u ∈ c, u.oneCell' = true := by
 refine ⟨?_, h.one⟩; obtain ⟨c1, rfl, _, q1⟩ := h; have w0 := Tm.av_w x.term; have t := (CF.app (CF.cons (FV.int .i64 x.var) CF.nil) (RTm.cf q1).1); rw [w0] at t; exact t
def It.av (x : It) : AV := .agg [.int .i64 x.id, .str x.atom.name, .sl .no (x.atom.args.map Tm.av)]
theorem RIt.cf {M : Hp} {c : List Value} {x : It} (h : RIt M c x) : CF M x.av.cells c ∧ ∀ u ∈ c, u.oneCell' = true := by
 refine ⟨?_, h.one⟩; obtain ⟨c1, rfl, _, q1⟩ := h; have t := (CF.app (CF.cons (FV.int .i64 x.id) CF.nil) (RAt.cf q1).1); exact t
def Ac.av (x : Ac) : AV := .agg [.str x.name, .int .i64 x.arity, .sl .no (x.positions.map intA)]
theorem RAc.cf {M : Hp} {c : List Value} {x : Ac} (h : RAc M c x) : CF M x.av.cells c ∧ ∀ u ∈ c, u.oneCell' = true := by
 refine ⟨?_, h.one⟩; obtain ⟨a1, k1, rfl, q0, _, q2, q3⟩ := h; exact (.cons (.str x.name q0) (.cons (.int .i64 x.arity) (.cons (q3.fv q2 (fun _ _ _ hc => RInt.cf hc)) .nil)))
end Go.CK
namespace Go.AM
open Go.CK Go.RowKit
def Vw (bs : List Box) (x y : AV) : Prop := ∀ (E : Entry) (G : Gh) (a : Act) (w : World) (lo : Nat), RS E G ⟨[], bs, lo⟩ a w -> ∀ v, RV G.M G.σ bs.length x v -> RV (Hp.of w) G.σ 0 y v
theorem Vw.row {α : Type} {f : α -> AV} {z : Nat} (hp : Plain f z) {bs : List Box} {b m k : Nat} {l : List α} (hb : bs[b]? = some (rowF f z k l)) (hm : m = l.length) : Vw bs (.bsl b m k) (.sl .no (l.map f)) := fun E G a w lo hs v hv => by
 refine .flat ?_; subst hm; obtain ⟨ad, rfl, hbl, hmk, hml, had⟩ := hv.inv_bsl; have hz : ∀ y ∈ l.map f, y.cells.length = z := fun y hy => by obtain ⟨x, _, rfl⟩ := List.mem_map.1 hy; exact hp.sz x
 have hlm : (l.map f).length = l.length := by simp
 by_cases hk : k = 0
 ·subst hk; have hl : l = [] := List.eq_nil_of_length_eq_zero (by omega)
  subst hl; exact FV.mk_sl (l := []) (B := 0) (off := 0) (sz := z) (by simp) (Nat.le_refl _) (Nat.zero_le _) (by simp) (fun h => absurd rfl h) (fun i hi => by cases hi)
 ·have hne : cellsOf (l.map f) ++ List.replicate ((k - l.length) * z) .top ≠ [] := fun e => by
   have := congrArg List.length e; rw [List.length_append, hp.len, List.length_replicate, ← Nat.add_mul, List.length_nil] at this; have h2 : 0 < (l.length + (k - l.length)) * z := Nat.mul_pos (by omega) hp.pos
   omega
  have hbc : boxCells bs b = some (cellsOf (l.map f) ++ List.replicate ((k - l.length) * z) .top) := rowAt_cells (rowAt_row hb) hne; rw [had hk]
  have hel : Elems (Hp.of w) (G.σ b) 0 z (l.map f) := Elems.ofCells (p := List.replicate ((k - l.length) * z) .top) hz fun j hj => by
   obtain ⟨u, h1, h2, h3⟩ := hs.bval (s := ⟨[], bs, lo⟩) hbc j hj; refine ⟨u, by rw [Nat.zero_add]; exact h1, h2, ?_⟩
   have hc : (cellsOf (l.map f) ++ List.replicate ((k - l.length) * z) AV.top)[j].deown = (cellsOf (l.map f) ++ List.replicate ((k - l.length) * z) AV.top)[j] ∧ (cellsOf (l.map f) ++ List.replicate ((k - l.length) * z) AV.top)[j].flat1 = true := by
    have := List.getElem_mem hj; rcases List.mem_append.1 this with hx | hx
    ·exact hp.mem hx
    ·rw [(List.mem_replicate.1 hx).2]; exact ⟨rfl, rfl⟩
   rw [hc.1] at h3; exact (h3.flat1 hc.2).mono hs.ok
  have := FV.mk_sl (M := Hp.of w) (o := .no) (l := l.map f) (a := some ⟨G.σ b, 0, none⟩) (k := k) (B := G.σ b) (off := 0) (sz := z) (by simp) (by rw [hlm]; exact hmk) (by rw [hlm];first|exact hml|exact glim_le hml) (by simp) (fun _ => rfl) hel
  rw [hlm] at this; exact this
theorem Sem.assume {P : Program} {f : FuncId} {vals : List AV} {bs : List Box} {Q : AV -> List Box -> Prop} (h : (∀ x ∈ vals, x.flat = true -> x.good) -> (∀ cs, AV.ept cs ∈ vals -> ∀ c ∈ cs, c.good) -> Sem P f vals bs Q) : Sem P f vals bs Q := fun E G a0 w args lo h1 h2 h3 => by
 refine h (fun x hx hf => ?_) (fun cs hx c hc => ?_) E G a0 w args lo h1 h2 h3
 ·obtain ⟨j, hj, rfl⟩ := List.getElem_of_mem hx; exact ⟨G.M, _, (h3 j hj _ (List.getElem?_eq_getElem (by omega))).toFV hf⟩
 ·obtain ⟨j, hj, e⟩ := List.getElem_of_mem hx; have hv := h3 j hj _ (List.getElem?_eq_getElem (by omega))
  rw [e] at hv; obtain ⟨B, off, _, hcs⟩ := hv.inv_ept; obtain ⟨i, hi, rfl⟩ := List.getElem_of_mem hc; obtain ⟨v, _, _, h6⟩ := hcs i hi; exact ⟨G.M, v, h6⟩
theorem AppN.nilRow {α : Type} {f : α -> AV} {z : Nat} (hp : Plain f z) {e : List (Nat × AV)} {bs : List Box} {lo : Nat} {l' : List α} {o : Cap} {K : AV -> St -> Prop} (hlim : l'.length ≤ 4294967296)
  (h : ∀ k', l'.length ≤ k' -> K (.bsl bs.length l'.length k') ⟨e, bs ++ [rowF f z k' l'], lo⟩) : AppN z ⟨e, bs, lo⟩ (.sl .full []) (.sl o (l'.map f)) K := by
 refine ⟨?_⟩; unfold appB; simp only [srcK, elsK]; refine ⟨fun y hy => by obtain ⟨x, _, rfl⟩ := List.mem_map.1 hy; exact hp.sz x, ?_⟩
 rw [List.length_map]; refine ⟨⟨hp.pos, by simp, by omega, fun x hx => by simp at hx⟩, fun k' hk' => ?_⟩
 have := h k' (by omega)
 simp only [rowF, killO, Nat.zero_add, List.take_nil, List.nil_append] at this ⊢; exact this
end Go.AM
namespace Go.AM
open Go.CK Go.RowKit
variable {A B K : Prop} {b : Bool} {p : Prop}
theorem cY (k : A) (h : b = true := by with_reducible rfl) : CondN b A B := .yes h k
theorem cN (k : B) (h : b = false := by with_reducible rfl) : CondN b A B := .no h k
theorem cI [Decidable p] (k : A) (h : p := by omega) : CondN (decide p) A B := .is h k
theorem cJ [Decidable p] (k : B) (h : ¬ p := by omega) : CondN (decide p) A B := .isnt h k
theorem cYa (k : A) (h : b = true := by assumption) : CondN b A B := .yes h k
theorem cNa (k : B) (h : b = false := by assumption) : CondN b A B := .no h k
theorem wI {n : Int} {K : Int -> Prop} (k : K n) (h : -9223372036854775808 ≤ n ∧ n ≤ 9223372036854775807 := by omega) : WrapN .i64 n K := .i64 h k
theorem nS (k : K) (h : p := by first | omega | assumption | (show mapOk _ = true; rfl) | (simp; done) | (simp; omega) | (simp [lim,glim]; done) | (simp [lim,glim]; omega) | ((repeat' (first | assumption | exact Szs.nil | exact Szs.tm | refine Szs.app ?_ ?_ | refine Szs.cons rfl ?_ | exact Szs.map (fun _ => rfl) | exact Szs.rep rfl | refine Szs.take ?_ _ | refine Szs.drop ?_ _ | refine Szs.set ?_ rfl _)); done)) : NeedN p K := ⟨h, k⟩
theorem iA {l : List Tm} {n : Nat} {K : AV -> Prop} {x : Tm} (k : K x.avw) (h : l[n]? = some x := by assumption) : IdxN 4 (l.map Tm.av) (n : Int) K := Go.CK.IdxN.tmK h k
theorem iB {l : List Tm} {n : Int} {K : AV -> Prop} {x : Tm} (k : K x.avw) (h : l[n.toNat]? = some x := by assumption) (h0 : 0 ≤ n := by omega) : IdxN 4 (l.map Tm.av) n K := Go.CK.IdxN.tmKI h h0 k
theorem iC {l : List Tm} {n : Nat} {K : AV -> Prop} (k : ∀ x, l[n]? = some x -> K x.avw) (h1 : n < l.length := by omega) : IdxN 4 (l.map Tm.av) (n : Int) K := Go.CK.IdxN.tm h1 k
section
variable {α : Type} {f : α -> AV} {sz : Nat} {l : List α} {K : AV -> Prop} {x : α}
theorem iE {n : Nat} (k : K (f x)) (h : l[n]? = some x := by assumption) (hs : ∀ x, (f x).cells.length = sz := by intro _; rfl) : IdxN sz (l.map f) (n : Int) K := .knownN h hs k
theorem iH {n : Nat} (k : ∀ x, l[n]? = some x -> K (f x)) (h1 : n < l.length := by omega) (hs : ∀ x, (f x).cells.length = sz := by intro _; rfl) : IdxN sz (l.map f) (n : Int) K := .mapN h1 hs k
end
theorem hB {P : Program} {f : FuncId} (k : K) (h : hasBody P f = true := by kernel_rfl) : HasN P f K := ⟨h, k⟩
section
variable {vs : List AV}
theorem pT {bs bs' : List Box} (k : K) (h : ∃ t, bs' = bs ++ t := by exact ⟨_, rfl⟩) : PreN vs bs bs' K := ⟨.inl h, k⟩
end
theorem vE {x y : AV} (k : K) (h : x = y := by with_reducible rfl) : WkN x y K := .eq h k
theorem vI {i : IntKind} {x y : Int} (k : K) (h : x = y := by omega) : WkN (.int i x) (.int i y) K := .int h k
theorem vB {x y : Bool} (k : K) (h : x = y := by assumption) : WkN (.bool x) (.bool y) K := .bool h k
theorem vD {z : Nat} {l m : List AV} (e : l = m) (k : K) (h : Szs z l := by (repeat' (first | assumption | exact Szs.nil | exact Szs.tm | refine Szs.app ?_ ?_ | refine Szs.cons rfl ?_ | exact Szs.map (fun _ => rfl) | exact Szs.rep rfl | refine Szs.take ?_ _ | refine Szs.drop ?_ _ | refine Szs.set ?_ rfl _)); done) : WkN (.sl .full l) (.sl (.own z) m) K := .claim h e k
theorem xB (k : K) (h : p := by with_reducible rfl) : BxN p K := ⟨h, k⟩
theorem gC {b : Bool} {A B : Prop} (h : CondN b A B) : CondN b A B := h
theorem gD {p : Prop} [Decidable p] {A B : Prop} (h : CondN (decide p) A B) : CondN (decide p) A B := h
theorem gN {p K : Prop} (h : NeedN p K) : NeedN p K := h
theorem gW {i : IntKind} {n : Int} {K : Int -> Prop} (h : WrapN i n K) : WrapN i n K := h
theorem gL {l : List AV} {K : Int -> Prop} (h : LenN l K) : LenN l K := h
theorem gI {sz : Nat} {l : List AV} {n : Int} {K : AV -> Prop} (h : IdxN sz l n K) : IdxN sz l n K := h
theorem gT {l : List Tm} {n : Int} {K : AV -> Prop} (h : IdxN 4 (l.map Tm.av) n K) : IdxN 4 (l.map Tm.av) n K := h
theorem gM {α : Type} {f : α -> AV} {sz : Nat} {l : List α} {n : Int} {K : AV -> Prop} (h : IdxN sz (l.map f) n K) : IdxN sz (l.map f) n K := h
theorem gH {P : Program} {f : FuncId} {K : Prop} (h : HasN P f K) : HasN P f K := h
theorem gB {bs : List Box} {n : Nat} {K : List AV -> Prop} (h : BxAt bs n K) : BxAt bs n K := h
theorem gPr {vs : List AV} {bs bs' : List Box} {K : Prop} (h : PreN vs bs bs' K) : PreN vs bs bs' K := h
theorem gF {P : Program} {f : FuncId} {vals raw : List AV} {bs : List Box} {K : AV -> List Box -> Prop} (h : CallN P f vals raw bs K) : CallN P f vals raw bs K := h
theorem gG {P : Program} {f : FuncId} {vals : List AV} {K : AV -> Prop} (h : CallP P f vals K) : CallP P f vals K := h
theorem gV {x y : AV} {K : Prop} (h : WkN x y K) : WkN x y K := h
theorem gK {z : Nat} {l m : List AV} {K : Prop} (h : WkN (.sl .full l) (.sl (.own z) m) K) : WkN (.sl .full l) (.sl (.own z) m) K := h
theorem gX {p K : Prop} (h : BxN p K) : BxN p K := h
theorem endz {s t : St} (h : fEnv true t.env fun e => fBs t.bs fun b => wkE 100 [] s.env e ∧ eqB s.bs b True := by (conv => whnf); (refine And.intro ?_ ?_ <;> conv => whnf); (all_goals repeat' ((first | (refine gV ?_; first | refine vE ?_ | refine vI ?_ | refine vB ?_ | (refine gK ?_; refine vC ?_) | refine vN ?_) | (refine gX ?_; refine xB ?_) | exact True.intro) <;> conv => whnf))) (hl : s.lo = t.lo := by rfl) : EndN s t := EndN.at_ h hl
end Go.AM
