/-
  Texts of this claim joined (wip/gen/bundle.py), those declarations only that are needed: RcTrm TrmA TrmB TrmC Vars VarsB. By an AI agent.
-/
import Derived.Test.YtahooabjmaolhaaProg
import Derived.Test.YtahooabjmaolhaaBap
import Derived.Test.YtahooabjmaolhaaBaq
import Derived.Test.YtahooabjmaolhaaBat
set_option linter.unusedSimpArgs false
set_option linter.unusedVariables false
namespace Go.CK
open Go.AM Go.Proofs
abbrev oQ (d : Nat) (x : RX) : ROp := ⟨some d, none, x⟩
abbrev oG (d g : Nat) (b : Bool) (x : RX) : ROp := ⟨some d, some (g, b), x⟩
abbrev oN (x : RX) : ROp := ⟨none, none, x⟩
abbrev SP (P : Program) (b : Bool) (vals : List AV) (bs : List Box) (c : RC) (rs : List RRes) (Q : AV -> List Box -> Prop) : Prop := (⟨params 0 vals, bs, bs.length⟩ : St).fo b fun s => c.gp P b s (retP rs Q)
variable {vals : List AV} {bs : List Box} {Q : AV -> List Box -> Prop}
def rc_constraintref03_Compare : RC :=
 (.seq
 (.reg false [2, 3] [
 oQ 2 (.box (.t 0)), oQ 3 (.box (.t 1)), oQ 4 (.mov (.c (.int .i64 0)))])
 (.seq
 (.reg true [2, 3, 5] [
 oQ 6 (.load true 4 (.t 2)), oQ 7 (.call (.c (.fn (.func 56) [] [])) [(.t 6)]), oQ 8 (.load true 4 (.t 3)), oQ 9 (.call (.c (.fn (.func 56) [] [])) [(.t 8)]), oQ 10 (.call (.c (.fn (.func 55) [] [])) [(.t 7), (.t 9)]), oQ 5 (.take 10)])
 (.seq
 (.seq
 (.reg false [2, 3, 5, 12] [
 oQ 11 (.mov (.t 5)), oQ 12 (.bin .neq (.t 11) (.c (.int .i64 0)))])
 (.cond (.t 12)
 (.seq
 (.reg false [4] [
 oQ 13 (.mov (.t 5)), oQ 4 (.mov (.t 13))])
 .ret)
 .skip))
 (.seq
 (.seq
 (.reg false [2, 3, 15] [
 oQ 14 (.load true 4 (.t 2)), oQ 15 (.call (.c (.fn (.func 56) [] [])) [(.t 14)])])
 (.block 0
 (.seq
 (.seq
 (.reg false [2, 3, 15, 16] [
 oQ 17 (.bin .eql (.t 15) (.c (.int .i64 0))), oQ 16 (.mov (.t 17))])
 (.cond (.t 16)
 .skip
 (.reg false [2, 3, 15, 16] [
 oQ 18 (.bin .eql (.t 15) (.c (.int .i64 1))), oQ 16 (.mov (.t 18))])))
 (.cond (.t 16)
 (.seq
 (.reg false [4] [
 oQ 19 (.fptr 1 (.t 2)), oQ 20 (.load false 1 (.t 19)), oQ 21 (.fptr 1 (.t 3)), oQ 22 (.load false 1 (.t 21)), oQ 23 (.call (.c (.fn (.func 55) [] [])) [(.t 20), (.t 22)]), oQ 4 (.mov (.t 23))])
 .ret)
 (.seq
 (.reg false [2, 3, 24] [
 oQ 25 (.bin .eql (.t 15) (.c (.int .i64 2))), oQ 24 (.mov (.t 25))])
 (.cond (.t 24)
 (.seq
 (.reg false [2, 3, 5] [
 oQ 26 (.fptr 3 (.t 2)), oQ 27 (.load false 1 (.t 26)), oQ 28 (.len false (.t 27)), oQ 29 (.fptr 3 (.t 3)), oQ 30 (.load false 1 (.t 29)), oQ 31 (.len false (.t 30)), oQ 32 (.call (.c (.fn (.func 55) [] [])) [(.t 28), (.t 31)]), oQ 5 (.mov (.t 32))])
 (.seq
 (.seq
 (.reg false [2, 3, 5, 34] [
 oQ 33 (.mov (.t 5)), oQ 34 (.bin .eql (.t 33) (.c (.int .i64 0)))])
 (.cond (.t 34)
 (.reg false [2, 3, 5] [
 oQ 35 (.fptr 2 (.t 2)), oQ 36 (.load false 1 (.t 35)), oQ 37 (.fptr 2 (.t 3)), oQ 38 (.load false 1 (.t 37)), oQ 39 (.call (.c (.fn (.func 57) [] [])) [(.t 36), (.t 38)]), oQ 5 (.mov (.t 39))])
 .skip))
 (.seq
 (.seq
 (.reg false [2, 3, 5, 41] [
 oQ 40 (.mov (.t 5)), oQ 41 (.bin .eql (.t 40) (.c (.int .i64 0)))])
 (.cond (.t 41)
 (.reg false [5] [
 oQ 42 (.fptr 3 (.t 2)), oQ 43 (.load false 1 (.t 42)), oQ 44 (.fptr 3 (.t 3)), oQ 45 (.load false 1 (.t 44)), oQ 46 (.call (.c (.fn (.func 58) [] [])) [(.t 43), (.t 45)]), oQ 5 (.mov (.t 46))])
 .skip))
 (.seq
 (.reg false [4] [
 oQ 47 (.mov (.t 5)), oQ 4 (.mov (.t 47))])
 .ret))))
 .skip))))))
 (.seq
 (.reg false [2, 3, 5] [
 oQ 48 (.fptr 0 (.t 2)), oQ 49 (.load false 1 (.t 48)), oQ 50 (.fptr 0 (.t 3)), oQ 51 (.load false 1 (.t 50)), oQ 52 (.call (.c (.fn (.func 55) [] [])) [(.t 49), (.t 51)]), oQ 5 (.mov (.t 52))])
 (.seq
 (.seq
 (.reg false [2, 3, 5, 54] [
 oQ 53 (.mov (.t 5)), oQ 54 (.bin .eql (.t 53) (.c (.int .i64 0)))])
 (.cond (.t 54)
 (.reg false [2, 3, 5] [
 oQ 55 (.fptr 1 (.t 2)), oQ 56 (.load false 1 (.t 55)), oQ 57 (.fptr 1 (.t 3)), oQ 58 (.load false 1 (.t 57)), oQ 59 (.call (.c (.fn (.func 55) [] [])) [(.t 56), (.t 58)]), oQ 5 (.mov (.t 59))])
 .skip))
 (.seq
 (.seq
 (.reg false [2, 3, 5, 61] [
 oQ 60 (.mov (.t 5)), oQ 61 (.bin .eql (.t 60) (.c (.int .i64 0)))])
 (.cond (.t 61)
 (.reg false [5] [
 oQ 62 (.fptr 2 (.t 2)), oQ 63 (.load false 1 (.t 62)), oQ 64 (.fptr 2 (.t 3)), oQ 65 (.load false 1 (.t 64)), oQ 66 (.call (.c (.fn (.func 57) [] [])) [(.t 63), (.t 65)]), oQ 5 (.mov (.t 66))])
 .skip))
 (.seq
 (.reg false [4] [
 oQ 67 (.mov (.t 5)), oQ 4 (.mov (.t 67))])
 .ret))))))))
theorem op_constraintref03_Compare (hn : vals.length ≤ 68) (h : SP Try.prog true vals bs rc_constraintref03_Compare [.slot 4] Q) : AM.Sem Try.prog 32 vals bs Q :=
 Sem.nrm (Sem.of (fn := Try.f32) (keeps := [(0, [2, 3]), (1, [2, 3, 5]), (2, [2, 3, 5, 12]), (3, [4]), (4, [2, 3, 15]), (5, [2, 3, 15, 16]), (6, [2, 3, 15, 16]), (8, [2, 3, 24]), (9, [2, 3, 5]), (10, [2, 3, 5, 34]), (11, [2, 3, 5]), (12, [2, 3, 5, 41]), (13, [5]), (14, [4]), (7, [4]), (15, [2, 3, 5]), (16, [2, 3, 5, 54]), (17, [2, 3, 5]), (18, [2, 3, 5, 61]), (19, [5]), (20, [4])]) (solo := []) Try.func32 rfl (by kernel_rfl) (by kernel_rfl) (by kernel_rfl) hn (run_gp h))
def rc_constraintref03_args : RC :=
 (.seq
 (.reg false [1] [
 oQ 1 (.box (.t 0)), oQ 2 (.mov (.c (.sl .full [])))])
 (.seq
 (.seq
 (.reg false [1, 5] [
 oQ 3 (.fptr 0 (.t 1)), oQ 4 (.load false 1 (.t 3)), oQ 5 (.bin .eql (.t 4) (.c (.int .i64 2)))])
 (.cond (.t 5)
 (.seq
 (.reg false [2] [
 oQ 6 (.fptr 3 (.t 1)), oQ 7 (.load false 1 (.t 6)), oQ 2 (.mov (.t 7))])
 .ret)
 .skip))
 (.seq
 (.reg false [2] [
 oQ 2 (.mov (.c (.sl .full [])))])
 .ret)))
theorem op_constraintref03_args (hn : vals.length ≤ 8) (h : SP Try.prog true vals bs rc_constraintref03_args [.slot 2] Q) : AM.Sem Try.prog 61 vals bs Q :=
 Sem.nrm (Sem.of (fn := Try.f61) (keeps := [(0, [1]), (1, [1, 5]), (2, [2]), (3, [2])]) (solo := []) Try.func61 rfl (by kernel_rfl) (by kernel_rfl) (by kernel_rfl) hn (run_gp h))
def rc_constraintref03_class : RC :=
 (.seq
 (.reg false [1] [
 oQ 1 (.box (.t 0)), oQ 2 (.mov (.c (.int .i64 0)))])
 (.seq
 (.seq
 (.reg false [4] [
 oQ 3 (.fptr 0 (.t 1)), oQ 4 (.load false 1 (.t 3))])
 (.block 0
 (.seq
 (.reg false [4, 5] [
 oQ 6 (.bin .eql (.t 4) (.c (.int .i64 1))), oQ 5 (.mov (.t 6))])
 (.cond (.t 5)
 (.seq
 (.reg false [2] [
 oQ 2 (.mov (.c (.int .i64 0)))])
 .ret)
 (.seq
 (.reg false [4, 7] [
 oQ 8 (.bin .eql (.t 4) (.c (.int .i64 0))), oQ 7 (.mov (.t 8))])
 (.cond (.t 7)
 (.seq
 (.reg false [2] [
 oQ 2 (.mov (.c (.int .i64 1)))])
 .ret)
 (.seq
 (.reg false [9] [
 oQ 10 (.bin .eql (.t 4) (.c (.int .i64 2))), oQ 9 (.mov (.t 10))])
 (.cond (.t 9)
 (.seq
 (.reg false [2] [
 oQ 2 (.mov (.c (.int .i64 2)))])
 .ret)
 .skip))))))))
 (.seq
 (.reg false [2] [
 oQ 2 (.mov (.c (.int .i64 3)))])
 .ret)))
theorem op_constraintref03_class (hn : vals.length ≤ 11) (h : SP Try.prog true vals bs rc_constraintref03_class [.slot 2] Q) : AM.Sem Try.prog 56 vals bs Q :=
 Sem.nrm (Sem.of (fn := Try.f56) (keeps := [(0, [1]), (1, [4]), (2, [4, 5]), (4, [4, 7]), (6, [9]), (7, [2]), (5, [2]), (3, [2]), (8, [2])]) (solo := []) Try.func56 rfl (by kernel_rfl) (by kernel_rfl) (by kernel_rfl) hn (run_gp h))
def rc_constraintref03_texts : RC :=
 (.seq
 (.reg false [0, 1] [
 oQ 4 (.mov (.c (.int .i64 0)))])
 (.seq
 (.block 0
 (.seq
 (.reg false [0, 1, 5] [
 oQ 6 (.mov (.t 0)), oQ 7 (.mov (.t 1)), oQ 8 (.bin .lss (.t 6) (.t 7)), oQ 5 (.mov (.t 8))])
 (.cond (.t 5)
 (.seq
 (.reg false [4] [
 oQ 4 (.mov (.c (.int .i64 (-1))))])
 .ret)
 (.seq
 (.reg false [9] [
 oQ 10 (.mov (.t 0)), oQ 11 (.mov (.t 1)), oQ 12 (.bin .gtr (.t 10) (.t 11)), oQ 9 (.mov (.t 12))])
 (.cond (.t 9)
 (.seq
 (.reg false [4] [
 oQ 4 (.mov (.c (.int .i64 1)))])
 .ret)
 .skip)))))
 (.seq
 (.reg false [4] [
 oQ 4 (.mov (.c (.int .i64 0)))])
 .ret)))
theorem op_constraintref03_texts (hn : vals.length ≤ 13) (h : SP Try.prog true vals bs rc_constraintref03_texts [.slot 4] Q) : AM.Sem Try.prog 57 vals bs Q :=
 Sem.nrm (Sem.of (fn := Try.f57) (keeps := [(0, [0, 1]), (1, [0, 1, 5]), (3, [9]), (4, [4]), (2, [4]), (5, [4])]) (solo := []) Try.func57 rfl (by kernel_rfl) (by kernel_rfl) (by kernel_rfl) hn (run_gp h))
def rc_constraintref03_ints : RC :=
 (.seq
 (.reg false [0, 1] [
 oQ 4 (.mov (.c (.int .i64 0)))])
 (.seq
 (.block 0
 (.seq
 (.reg false [0, 1, 5] [
 oQ 6 (.mov (.t 0)), oQ 7 (.mov (.t 1)), oQ 8 (.bin .lss (.t 6) (.t 7)), oQ 5 (.mov (.t 8))])
 (.cond (.t 5)
 (.seq
 (.reg false [4] [
 oQ 4 (.mov (.c (.int .i64 (-1))))])
 .ret)
 (.seq
 (.reg false [9] [
 oQ 10 (.mov (.t 0)), oQ 11 (.mov (.t 1)), oQ 12 (.bin .gtr (.t 10) (.t 11)), oQ 9 (.mov (.t 12))])
 (.cond (.t 9)
 (.seq
 (.reg false [4] [
 oQ 4 (.mov (.c (.int .i64 1)))])
 .ret)
 .skip)))))
 (.seq
 (.reg false [4] [
 oQ 4 (.mov (.c (.int .i64 0)))])
 .ret)))
theorem op_constraintref03_ints (hn : vals.length ≤ 13) (h : SP Try.prog true vals bs rc_constraintref03_ints [.slot 4] Q) : AM.Sem Try.prog 55 vals bs Q :=
 Sem.nrm (Sem.of (fn := Try.f55) (keeps := [(0, [0, 1]), (1, [0, 1, 5]), (3, [9]), (4, [4]), (2, [4]), (5, [4])]) (solo := []) Try.func55 rfl (by kernel_rfl) (by kernel_rfl) (by kernel_rfl) hn (run_gp h))
def rc_constraintref03_lists : RC :=
 (.seq
 (.reg false [0, 1] [
 oQ 4 (.mov (.c (.int .i64 0)))])
 (.seq
 (.seq
 (.reg false [0, 1, 5] [
 oQ 5 (.mov (.c (.int .i64 0)))])
 (.block 0
 (.loop
 (.seq
 (.seq
 (.reg false [0, 1, 5, 16] [
 oQ 7 (.mov (.t 5)), oQ 8 (.mov (.t 0)), oQ 9 (.len false (.t 8)), oQ 10 (.bin .lss (.t 7) (.t 9)), oQ 11 (.mov (.t 10)), oG 12 11 true (.mov (.t 5)), oG 13 11 true (.mov (.t 1)), oG 14 11 true (.len false (.t 13)), oG 15 11 true (.bin .lss (.t 12) (.t 14)), oQ 16 (.pick (.t 11) (.t 15) (.c (.bool false)))])
 (.cond (.t 16)
 .skip
 (.exit 0)))
 (.seq
 (.block 1
 (.seq
 (.reg true [0, 1, 5, 6] [
 oQ 19 (.mov (.t 0)), oQ 20 (.mov (.t 5)), oQ 21 (.idx 4 (.t 19) (.t 20)), oQ 22 (.load true 4 (.t 21)), oQ 23 (.mov (.t 1)), oQ 24 (.mov (.t 5)), oQ 25 (.idx 4 (.t 23) (.t 24)), oQ 26 (.load true 4 (.t 25)), oQ 27 (.call (.c (.fn (.func 32) [] [])) [(.t 22), (.t 26)]), oQ 6 (.take 27)])
 (.seq
 (.reg false [0, 1, 5, 6, 29] [
 oQ 28 (.mov (.t 6)), oQ 29 (.bin .neq (.t 28) (.c (.int .i64 0)))])
 (.cond (.t 29)
 (.seq
 (.reg false [4] [
 oQ 30 (.mov (.t 6)), oQ 4 (.mov (.t 30))])
 .ret)
 .skip))))
 (.reg false [0, 1, 5] [
 oQ 17 (.mov (.t 5)), oQ 18 (.bin .add (.t 17) (.c (.int .i64 1))), oQ 5 (.mov (.t 18))]))))))
 (.seq
 (.reg false [4] [
 oQ 31 (.mov (.t 0)), oQ 32 (.len false (.t 31)), oQ 33 (.mov (.t 1)), oQ 34 (.len false (.t 33)), oQ 35 (.call (.c (.fn (.func 55) [] [])) [(.t 32), (.t 34)]), oQ 4 (.mov (.t 35))])
 .ret)))
theorem op_constraintref03_lists (hn : vals.length ≤ 36) (h : SP Try.prog true vals bs rc_constraintref03_lists [.slot 4] Q) : AM.Sem Try.prog 58 vals bs Q :=
 Sem.nrm (Sem.of (fn := Try.f58) (keeps := [(0, [0, 1]), (1, [0, 1, 5]), (2, [0, 1, 5, 16]), (4, [0, 1, 5, 6]), (5, [0, 1, 5, 6, 29]), (6, [4]), (3, [0, 1, 5]), (7, [4])]) (solo := []) Try.func58 rfl (by kernel_rfl) (by kernel_rfl) (by kernel_rfl) hn (run_gp h))
def rc_constraintlaw04_Small : RC :=
 (.seq
 (.reg false [1] [
 oQ 1 (.box (.t 0)), oQ 2 (.mov (.c (.bool false)))])
 (.seq
 (.reg false [2] [
 oQ 3 (.load true 4 (.t 1)), oQ 4 (.call (.c (.fn (.func 23) [] [])) [(.t 3), (.c (.int .i64 1000)), (.c (.int .i64 100))]), oQ 5 (.bin .geq (.t 4) (.c (.int .i64 0))), oQ 2 (.mov (.t 5))])
 .ret))
theorem op_constraintlaw04_Small (hn : vals.length ≤ 6) (h : SP Try.prog true vals bs rc_constraintlaw04_Small [.slot 2] Q) : AM.Sem Try.prog 8 vals bs Q :=
 Sem.nrm (Sem.of (fn := Try.f8) (keeps := [(0, [1]), (1, [2])]) (solo := []) Try.func8 rfl (by kernel_rfl) (by kernel_rfl) (by kernel_rfl) hn (run_gp h))
def rc_constraintlaw04_left : RC :=
 (.seq
 (.reg false [1, 2, 3] [
 oQ 3 (.box (.t 0)), oQ 6 (.mov (.c (.int .i64 0)))])
 (.seq
 (.reg false [1, 2, 3] [
 oQ 8 (.mov (.t 1)), oQ 9 (.bin .sub (.t 8) (.c (.int .i64 1))), oQ 1 (.mov (.t 9))])
 (.seq
 (.seq
 (.reg false [1, 2, 3, 15] [
 oQ 10 (.mov (.t 2)), oQ 11 (.bin .lss (.t 10) (.c (.int .i64 1))), oQ 12 (.mov (.t 11)), oG 13 12 false (.mov (.t 1)), oG 14 12 false (.bin .lss (.t 13) (.c (.int .i64 0))), oQ 15 (.pick (.t 12) (.c (.bool true)) (.t 14))])
 (.cond (.t 15)
 (.seq
 (.reg false [6] [
 oQ 6 (.mov (.c (.int .i64 (-1))))])
 .ret)
 .skip))
 (.seq
 (.seq
 (.reg false [1, 2, 3, 18, 19] [
 oQ 16 (.fptr 3 (.t 3)), oQ 17 (.load false 1 (.t 16)), oQ 18 (.len false (.t 17)), oQ 19 (.mov (.c (.int .i64 0)))])
 (.block 0
 (.loop
 (.seq
 (.reg false [1, 2, 3, 18, 19, 20] [
 oQ 20 (.bin .lss (.t 19) (.t 18))])
 (.seq
 (.cond (.t 20)
 .skip
 (.exit 0))
 (.seq
 (.block 1
 (.seq
 (.reg false [1, 2, 3, 7, 18, 19] [
 oQ 21 (.mov (.t 19)), oQ 7 (.mov (.t 21))])
 (.seq
 (.reg false [1, 2, 3, 18, 19] [
 oQ 22 (.fptr 3 (.t 3)), oQ 23 (.load false 1 (.t 22)), oQ 24 (.mov (.t 7)), oQ 25 (.idx 4 (.t 23) (.t 24)), oQ 26 (.load true 4 (.t 25)), oQ 27 (.mov (.t 1)), oQ 28 (.mov (.t 2)), oQ 29 (.bin .sub (.t 28) (.c (.int .i64 1))), oQ 30 (.call (.c (.fn (.func 23) [] [])) [(.t 26), (.t 27), (.t 29)]), oQ 1 (.mov (.t 30))])
 (.seq
 (.reg false [1, 2, 3, 18, 19, 32] [
 oQ 31 (.mov (.t 1)), oQ 32 (.bin .lss (.t 31) (.c (.int .i64 0)))])
 (.cond (.t 32)
 (.seq
 (.reg false [6] [
 oQ 6 (.mov (.c (.int .i64 (-1))))])
 .ret)
 .skip)))))
 (.reg false [1, 2, 3, 18, 19] [
 oQ 33 (.bin .add (.t 19) (.c (.int .i64 1))), oQ 19 (.mov (.t 33))])))))))
 (.seq
 (.reg false [6] [
 oQ 34 (.mov (.t 1)), oQ 6 (.mov (.t 34))])
 .ret)))))
theorem op_constraintlaw04_left (hn : vals.length ≤ 35) (h : SP Try.prog true vals bs rc_constraintlaw04_left [.slot 6] Q) : AM.Sem Try.prog 23 vals bs Q :=
 Sem.nrm (Sem.of (fn := Try.f23) (keeps := [(0, [1, 2, 3]), (1, [1, 2, 3]), (2, [1, 2, 3, 15]), (3, [6]), (4, [1, 2, 3, 18, 19]), (5, [1, 2, 3, 18, 19, 20]), (6, [1, 2, 3, 7, 18, 19]), (7, [1, 2, 3, 18, 19]), (8, [1, 2, 3, 18, 19, 32]), (9, [6]), (10, [1, 2, 3, 18, 19]), (11, [6])]) (solo := []) Try.func23 rfl (by kernel_rfl) (by kernel_rfl) (by kernel_rfl) hn (run_gp h))
end Go.CK
namespace Go.CK
open Go.AM Go.Proofs
set_option maxRecDepth 100000 in
theorem refInts_ok {x y : Int} : Fun Try.prog 55 [.int .i64 x, .int .i64 y] (.int .i64 (cmpI x y)) := by
 refine Fun.of (op_constraintref03_ints (by simp) ?_) rfl rfl
 conv => whnf
 conv => whnf
 repeat' ((first | (refine gC ?_; first | refine cY ?_ | refine cN ?_ | refine .not ?_ | (refine gD ?_; first | refine cI ?_ | refine cJ ?_ | refine cIa ?_ | refine cJa ?_ | refine cIr ?_ | refine cId ?_ | refine cJd ?_) | refine cYa ?_ | refine cNa ?_ | with_reducible refine CondN.and ?_ | with_reducible refine CondN.or ?_ | refine CondN.lt (fun hc => ?_) (fun hc => ?_) | refine CondN.le (fun hc => ?_) (fun hc => ?_) | refine CondN.dec (fun hc => ?_) (fun hc => ?_) | refine CondN.any (fun hc => ?_) (fun hc => ?_)) | (refine gW ?_; refine wI ?_) | (refine gL ?_; first | refine .map ?_ | refine .nil ?_ | refine .one ?_ | refine .app ?_ | refine .set ?_ | refine .rep ?_ | refine .any ?_) | (refine gN ?_; refine nS ?_) | (refine gI ?_; first | (refine gT ?_; first | refine iA ?_ | refine iB ?_ | refine iC fun x hx => ?_ | refine iD fun x hx => ?_) | (refine gM ?_; first | refine iE ?_ | refine iF ?_ | refine iG ?_ | refine iH fun x hx => ?_ | refine iI fun x hx => ?_) | refine iG ?_ | refine iJ ?_) | refine BothN.mk ?_ ?_ | (refine gH ?_; refine hB ?_) | (refine gA ?_; refine aP ?_) | (refine gB ?_; first | refine .last ?_ | refine .last2 ?_) | refine BxSet.last ?_ | refine BxSet.last2 ?_ | (refine gE ?_; first | refine eL ?_ | refine eLb ?_ | refine eLn ?_) | (refine gS ?_; first | refine eS ?_ | refine eSb ?_ | refine eSn ?_) | (refine gP ?_; first | refine aR fun k hk => ?_ | refine aO fun k hk => ?_ | refine aOn fun k hk => ?_) | (refine gZ ?_; refine zN fun k hk => ?_) | (refine gMp ?_; first | refine mA ?_ | refine mAq ?_) | (refine gMk ?_; first | refine mB ?_ | refine mBb ?_) | (refine gPr ?_; first | refine pE ?_ | refine pZ ?_ | refine pT ?_ | refine pN ?_ | refine pN2 ?_ | refine pS ?_) | (refine gMs ?_; first | refine mS (fun hc => ?_) (fun hc => ?_) | refine mEs ?_ | refine mEn ?_ | refine mE (fun v hc => ?_) (fun hc => ?_)) | (refine gEn ?_; refine eN ?_) | (refine gSt ?_; refine sN ?_) | refine RetP.nrm ?_ | (refine gIs ?_; refine iS ?_)) <;> conv => whnf)
 ·rw [cmpI, if_pos (by omega)]
 ·rw [cmpI, if_neg (by omega), if_pos (by omega)]
 ·rw [cmpI, if_neg (by omega), if_neg (by omega)]
set_option maxRecDepth 100000 in
theorem refTexts_ok {x y : ByteArray} : Fun Try.prog 57 [.str x, .str y] (.int .i64 (cmpS x y)) := by
 refine Fun.of (op_constraintref03_texts (by simp) ?_) rfl rfl
 conv => whnf
 conv => whnf
 repeat' ((first | (refine gC ?_; first | refine cY ?_ | refine cN ?_ | refine .not ?_ | (refine gD ?_; first | refine cI ?_ | refine cJ ?_ | refine cIa ?_ | refine cJa ?_ | refine cIr ?_ | refine cId ?_ | refine cJd ?_) | refine cYa ?_ | refine cNa ?_ | with_reducible refine CondN.and ?_ | with_reducible refine CondN.or ?_ | refine CondN.lt (fun hc => ?_) (fun hc => ?_) | refine CondN.le (fun hc => ?_) (fun hc => ?_) | refine CondN.dec (fun hc => ?_) (fun hc => ?_) | refine CondN.any (fun hc => ?_) (fun hc => ?_)) | (refine gW ?_; refine wI ?_) | (refine gL ?_; first | refine .map ?_ | refine .nil ?_ | refine .one ?_ | refine .app ?_ | refine .set ?_ | refine .rep ?_ | refine .any ?_) | (refine gN ?_; refine nS ?_) | (refine gI ?_; first | (refine gT ?_; first | refine iA ?_ | refine iB ?_ | refine iC fun x hx => ?_ | refine iD fun x hx => ?_) | (refine gM ?_; first | refine iE ?_ | refine iF ?_ | refine iG ?_ | refine iH fun x hx => ?_ | refine iI fun x hx => ?_) | refine iG ?_ | refine iJ ?_) | refine BothN.mk ?_ ?_ | (refine gH ?_; refine hB ?_) | (refine gA ?_; refine aP ?_) | (refine gB ?_; first | refine .last ?_ | refine .last2 ?_) | refine BxSet.last ?_ | refine BxSet.last2 ?_ | (refine gE ?_; first | refine eL ?_ | refine eLb ?_ | refine eLn ?_) | (refine gS ?_; first | refine eS ?_ | refine eSb ?_ | refine eSn ?_) | (refine gP ?_; first | refine aR fun k hk => ?_ | refine aO fun k hk => ?_ | refine aOn fun k hk => ?_) | (refine gZ ?_; refine zN fun k hk => ?_) | (refine gMp ?_; first | refine mA ?_ | refine mAq ?_) | (refine gMk ?_; first | refine mB ?_ | refine mBb ?_) | (refine gPr ?_; first | refine pE ?_ | refine pZ ?_ | refine pT ?_ | refine pN ?_ | refine pN2 ?_ | refine pS ?_) | (refine gMs ?_; first | refine mS (fun hc => ?_) (fun hc => ?_) | refine mEs ?_ | refine mEn ?_ | refine mE (fun v hc => ?_) (fun hc => ?_)) | (refine gEn ?_; refine eN ?_) | (refine gSt ?_; refine sN ?_) | refine RetP.nrm ?_ | (refine gIs ?_; refine iS ?_)) <;> conv => whnf)
 ·simp [cmpS, less_irr, *]
 ·simp [cmpS, less_irr, *]
 ·simp [cmpS, less_irr, *]
set_option maxRecDepth 100000 in
theorem class_ok {t : Tm} : Fun Try.prog 56 [t.avw] (.int .i64 (rankI t.kind)) := by
 refine Fun.of (op_constraintref03_class (by simp) ?_) rfl rfl
 conv => whnf
 conv => whnf
 repeat' ((first | (refine gC ?_; first | refine cY ?_ | refine cN ?_ | refine .not ?_ | (refine gD ?_; first | refine cI ?_ | refine cJ ?_ | refine cIa ?_ | refine cJa ?_ | refine cIr ?_ | refine cId ?_ | refine cJd ?_) | refine cYa ?_ | refine cNa ?_ | with_reducible refine CondN.and ?_ | with_reducible refine CondN.or ?_ | refine CondN.lt (fun hc => ?_) (fun hc => ?_) | refine CondN.le (fun hc => ?_) (fun hc => ?_) | refine CondN.dec (fun hc => ?_) (fun hc => ?_) | refine CondN.any (fun hc => ?_) (fun hc => ?_)) | (refine gW ?_; refine wI ?_) | (refine gL ?_; first | refine .map ?_ | refine .nil ?_ | refine .one ?_ | refine .app ?_ | refine .set ?_ | refine .rep ?_ | refine .any ?_) | (refine gN ?_; refine nS ?_) | (refine gI ?_; first | (refine gT ?_; first | refine iA ?_ | refine iB ?_ | refine iC fun x hx => ?_ | refine iD fun x hx => ?_) | (refine gM ?_; first | refine iE ?_ | refine iF ?_ | refine iG ?_ | refine iH fun x hx => ?_ | refine iI fun x hx => ?_) | refine iG ?_ | refine iJ ?_) | refine BothN.mk ?_ ?_ | (refine gH ?_; refine hB ?_) | (refine gA ?_; refine aP ?_) | (refine gB ?_; first | refine .last ?_ | refine .last2 ?_) | refine BxSet.last ?_ | refine BxSet.last2 ?_ | (refine gE ?_; first | refine eL ?_ | refine eLb ?_ | refine eLn ?_) | (refine gS ?_; first | refine eS ?_ | refine eSb ?_ | refine eSn ?_) | (refine gP ?_; first | refine aR fun k hk => ?_ | refine aO fun k hk => ?_ | refine aOn fun k hk => ?_) | (refine gZ ?_; refine zN fun k hk => ?_) | (refine gMp ?_; first | refine mA ?_ | refine mAq ?_) | (refine gMk ?_; first | refine mB ?_ | refine mBb ?_) | (refine gPr ?_; first | refine pE ?_ | refine pZ ?_ | refine pT ?_ | refine pN ?_ | refine pN2 ?_ | refine pS ?_) | (refine gMs ?_; first | refine mS (fun hc => ?_) (fun hc => ?_) | refine mEs ?_ | refine mEn ?_ | refine mE (fun v hc => ?_) (fun hc => ?_)) | (refine gEn ?_; refine eN ?_) | (refine gSt ?_; refine sN ?_) | refine RetP.nrm ?_ | (refine gIs ?_; refine iS ?_)) <;> conv => whnf)
 all_goals simp [rankI, *]
set_option maxRecDepth 100000 in
theorem lists_of {l m : List Tm} (ih : ∀ t ∈ l, ∀ b : Tm, Fun Try.prog 32 [t.avw, b.avw] (.int .i64 (t.cmp b))) : Fun Try.prog 58 [slA Tm.av l, slA Tm.av m] (.int .i64 (Tm.cmps l m)) := by
 refine Fun.assume rfl fun hg0 => ?_; have hg := (good_sla (hg0 (slA Tm.av l) (by simp))).1
 refine Fun.of (op_constraintref03_lists (by simp) ?_) rfl rfl
 conv => whnf
 conv => whnf
 repeat' ((first | (refine gC ?_; first | refine cY ?_ | refine cN ?_ | refine .not ?_ | (refine gD ?_; first | refine cI ?_ | refine cJ ?_ | refine cIa ?_ | refine cJa ?_ | refine cIr ?_ | refine cId ?_ | refine cJd ?_) | refine cYa ?_ | refine cNa ?_ | with_reducible refine CondN.and ?_ | with_reducible refine CondN.or ?_ | refine CondN.lt (fun hc => ?_) (fun hc => ?_) | refine CondN.le (fun hc => ?_) (fun hc => ?_) | refine CondN.dec (fun hc => ?_) (fun hc => ?_) | refine CondN.any (fun hc => ?_) (fun hc => ?_)) | (refine gW ?_; refine wI ?_) | (refine gL ?_; first | refine .map ?_ | refine .nil ?_ | refine .one ?_ | refine .app ?_ | refine .set ?_ | refine .rep ?_ | refine .any ?_) | (refine gN ?_; refine nS ?_) | (refine gI ?_; first | (refine gT ?_; first | refine iA ?_ | refine iB ?_ | refine iC fun x hx => ?_ | refine iD fun x hx => ?_) | (refine gM ?_; first | refine iE ?_ | refine iF ?_ | refine iG ?_ | refine iH fun x hx => ?_ | refine iI fun x hx => ?_) | refine iG ?_ | refine iJ ?_) | refine BothN.mk ?_ ?_ | (refine gH ?_; refine hB ?_) | (refine gA ?_; refine aP ?_) | (refine gB ?_; first | refine .last ?_ | refine .last2 ?_) | refine BxSet.last ?_ | refine BxSet.last2 ?_ | (refine gE ?_; first | refine eL ?_ | refine eLb ?_ | refine eLn ?_) | (refine gS ?_; first | refine eS ?_ | refine eSb ?_ | refine eSn ?_) | (refine gP ?_; first | refine aR fun k hk => ?_ | refine aO fun k hk => ?_ | refine aOn fun k hk => ?_) | (refine gZ ?_; refine zN fun k hk => ?_) | (refine gMp ?_; first | refine mA ?_ | refine mAq ?_) | (refine gMk ?_; first | refine mB ?_ | refine mBb ?_) | (refine gPr ?_; first | refine pE ?_ | refine pZ ?_ | refine pT ?_ | refine pN ?_ | refine pN2 ?_ | refine pS ?_) | (refine gMs ?_; first | refine mS (fun hc => ?_) (fun hc => ?_) | refine mEs ?_ | refine mEn ?_ | refine mE (fun v hc => ?_) (fun hc => ?_)) | (refine gEn ?_; refine eN ?_) | (refine gSt ?_; refine sN ?_) | refine RetP.nrm ?_ | (refine gIs ?_; refine iS ?_)) <;> conv => whnf)
 refine LoopP.by (fb := true) (fun st_ j => st_.sets [(5, .int .i64 (j : Nat))]) (fun j => j ≤ l.length ∧ j ≤ m.length ∧ Tm.cmps (l.drop j) (m.drop j) = Tm.cmps l m) (fun j => l.length - j) 0 ⟨by omega, by omega, rfl⟩ ?_ ?_
 ·refine EndN.at_ ?_ rfl
  conv => whnf
  refine And.intro ?_ ?_ <;> conv => whnf
  all_goals repeat' ((first | (refine gV ?_; first | refine vE ?_ | refine vI ?_ | refine vB ?_ | (refine gK ?_; refine vC ?_) | refine vN ?_ | (refine WkN.sl ?_ ?_; (focus (simp [AV.norm, AV.norm1, ]; done))) | ((refine gK ?_; refine vD ?_ ?_); (focus (simp [AV.norm, AV.norm1, ]; done))) | (refine WkN.norm ?_ ?_; (focus (simp [AV.norm, AV.norm1, ]; done)))) | (refine gX ?_; first | refine xB ?_ | (refine BxN.mk ?_ ?_; (focus (simp [AV.norm, AV.norm1, ]; done)))) | exact True.intro) <;> conv => whnf)
 ·rintro j ⟨h1, h2, hij⟩
  conv => whnf
  repeat' ((first | (refine gF ?_; first | refine CallN.fn (ih _ (List.mem_of_getElem? (by assumption)) _) ?_ | refine CallN.fn (refInts_ok) ?_) | (refine gG ?_; first | refine CallP.fn (ih _ (List.mem_of_getElem? (by assumption)) _) ?_ | refine CallP.fn (refInts_ok) ?_) | (refine gC ?_; first | refine cY ?_ | refine cN ?_ | refine .not ?_ | (refine gD ?_; first | refine cI ?_ | refine cJ ?_ | refine cIa ?_ | refine cJa ?_ | refine cIr ?_ | refine cId ?_ | refine cJd ?_) | refine cYa ?_ | refine cNa ?_ | with_reducible refine CondN.and ?_ | with_reducible refine CondN.or ?_ | refine CondN.lt (fun hc => ?_) (fun hc => ?_) | refine CondN.le (fun hc => ?_) (fun hc => ?_) | refine CondN.dec (fun hc => ?_) (fun hc => ?_) | refine CondN.any (fun hc => ?_) (fun hc => ?_)) | (refine gW ?_; refine wI ?_) | (refine gL ?_; first | refine .map ?_ | refine .nil ?_ | refine .one ?_ | refine .app ?_ | refine .set ?_ | refine .rep ?_ | refine .any ?_) | (refine gN ?_; refine nS ?_) | (refine gI ?_; first | (refine gT ?_; first | refine iA ?_ | refine iB ?_ | refine iC fun x hx => ?_ | refine iD fun x hx => ?_) | (refine gM ?_; first | refine iE ?_ | refine iF ?_ | refine iG ?_ | refine iH fun x hx => ?_ | refine iI fun x hx => ?_) | refine iG ?_ | refine iJ ?_) | refine BothN.mk ?_ ?_ | (refine gH ?_; refine hB ?_) | (refine gA ?_; refine aP ?_) | (refine gB ?_; first | refine .last ?_ | refine .last2 ?_) | refine BxSet.last ?_ | refine BxSet.last2 ?_ | (refine gE ?_; first | refine eL ?_ | refine eLb ?_ | refine eLn ?_) | (refine gS ?_; first | refine eS ?_ | refine eSb ?_ | refine eSn ?_) | (refine gP ?_; first | refine aR fun k hk => ?_ | refine aO fun k hk => ?_ | refine aOn fun k hk => ?_) | (refine gZ ?_; refine zN fun k hk => ?_) | (refine gMp ?_; first | refine mA ?_ | refine mAq ?_) | (refine gMk ?_; first | refine mB ?_ | refine mBb ?_) | (refine gPr ?_; first | refine pE ?_ | refine pZ ?_ | refine pT ?_ | refine pN ?_ | refine pN2 ?_ | refine pS ?_) | (refine gMs ?_; first | refine mS (fun hc => ?_) (fun hc => ?_) | refine mEs ?_ | refine mEn ?_ | refine mE (fun v hc => ?_) (fun hc => ?_)) | (refine gEn ?_; refine eN ?_) | (refine gSt ?_; refine sN ?_) | refine RetP.nrm ?_ | (refine gIs ?_; refine iS ?_)) <;> conv => whnf)
  ·rw [cmps_step (by assumption) (by assumption)] at hij
   refine ⟨j + 1, ⟨⟨by omega, by omega, ?_⟩, by omega⟩, ?_⟩
   ·rw [← hij]; simp [orI, *]
   ·refine EndN.at_ ?_ rfl
    conv => whnf
    refine And.intro ?_ ?_ <;> conv => whnf
    all_goals repeat' ((first | (refine gV ?_; first | refine vE ?_ | refine vI ?_ | refine vB ?_ | (refine gK ?_; refine vC ?_) | refine vN ?_ | (refine WkN.sl ?_ ?_; (focus (simp [AV.norm, AV.norm1, ]; done))) | ((refine gK ?_; refine vD ?_ ?_); (focus (simp [AV.norm, AV.norm1, ]; done))) | (refine WkN.norm ?_ ?_; (focus (simp [AV.norm, AV.norm1, ]; done)))) | (refine gX ?_; first | refine xB ?_ | (refine BxN.mk ?_ ?_; (focus (simp [AV.norm, AV.norm1, ]; done)))) | exact True.intro) <;> conv => whnf)
  ·rw [cmps_step (by assumption) (by assumption), orI_n (by assumption)] at hij
   rw [hij]
  ·rw [cmps_end h1 h2 (by omega)] at hij
   rw [hij]
  ·rw [cmps_end h1 h2 (by omega)] at hij
   rw [hij]
set_option maxRecDepth 100000 in
theorem refCompare_ok (a : Tm) : ∀ b : Tm, Fun Try.prog 32 [a.avw, b.avw] (.int .i64 (a.cmp b)) := by
 induction a using Tm.ind_all with
 | h k n s l ih =>
 intro b; generalize ha : Tm.mk k n s l = a; have ih : ∀ t ∈ a.args, ∀ b : Tm, Fun Try.prog 32 [t.avw, b.avw] (.int .i64 (t.cmp b)) := by subst ha; exact ih
 clear ha; rw [Tm.cmp_eq]; refine Fun.of (op_constraintref03_Compare (by simp) ?_) rfl rfl
 conv => whnf
 conv => whnf
 repeat' ((first | (refine gF ?_; first | refine CallN.fn (class_ok) ?_ | refine CallN.fn (refInts_ok) ?_ | refine CallN.fn (refTexts_ok) ?_ | refine CallN.fn (lists_of ih) ?_) | (refine gG ?_; first | refine CallP.fn (class_ok) ?_ | refine CallP.fn (refInts_ok) ?_ | refine CallP.fn (refTexts_ok) ?_ | refine CallP.fn (lists_of ih) ?_) | (refine gC ?_; first | refine cY ?_ | refine cN ?_ | refine .not ?_ | (refine gD ?_; first | refine cI ?_ | refine cJ ?_ | refine cIa ?_ | refine cJa ?_ | refine cIr ?_ | refine cId ?_ | refine cJd ?_) | refine cYa ?_ | refine cNa ?_ | with_reducible refine CondN.and ?_ | with_reducible refine CondN.or ?_ | refine CondN.lt (fun hc => ?_) (fun hc => ?_) | refine CondN.le (fun hc => ?_) (fun hc => ?_) | refine CondN.dec (fun hc => ?_) (fun hc => ?_) | refine CondN.any (fun hc => ?_) (fun hc => ?_)) | (refine gW ?_; refine wI ?_) | (refine gL ?_; first | refine .map ?_ | refine .nil ?_ | refine .one ?_ | refine .app ?_ | refine .set ?_ | refine .rep ?_ | refine .any ?_) | (refine gN ?_; refine nS ?_) | (refine gI ?_; first | (refine gT ?_; first | refine iA ?_ | refine iB ?_ | refine iC fun x hx => ?_ | refine iD fun x hx => ?_) | (refine gM ?_; first | refine iE ?_ | refine iF ?_ | refine iG ?_ | refine iH fun x hx => ?_ | refine iI fun x hx => ?_) | refine iG ?_ | refine iJ ?_) | refine BothN.mk ?_ ?_ | (refine gH ?_; refine hB ?_) | (refine gA ?_; refine aP ?_) | (refine gB ?_; first | refine .last ?_ | refine .last2 ?_) | refine BxSet.last ?_ | refine BxSet.last2 ?_ | (refine gE ?_; first | refine eL ?_ | refine eLb ?_ | refine eLn ?_) | (refine gS ?_; first | refine eS ?_ | refine eSb ?_ | refine eSn ?_) | (refine gP ?_; first | refine aR fun k hk => ?_ | refine aO fun k hk => ?_ | refine aOn fun k hk => ?_) | (refine gZ ?_; refine zN fun k hk => ?_) | (refine gMp ?_; first | refine mA ?_ | refine mAq ?_) | (refine gMk ?_; first | refine mB ?_ | refine mBb ?_) | (refine gPr ?_; first | refine pE ?_ | refine pZ ?_ | refine pT ?_ | refine pN ?_ | refine pN2 ?_ | refine pS ?_) | (refine gMs ?_; first | refine mS (fun hc => ?_) (fun hc => ?_) | refine mEs ?_ | refine mEn ?_ | refine mE (fun v hc => ?_) (fun hc => ?_)) | (refine gEn ?_; refine eN ?_) | (refine gSt ?_; refine sN ?_) | refine RetP.nrm ?_ | (refine gIs ?_; refine iS ?_)) <;> conv => whnf)
 all_goals (clear ih; simp_all [orI])
end Go.CK
namespace Go.CK
open Go.AM Go.Proofs
end Go.CK
namespace Go.CK
open Go.AM Go.Proofs
mutual
def lft : Tm -> Int -> Int -> Int
 | .mk _ _ _ args, n, d => if d < 1 ∨ n - 1 < 0 then -1 else lfts args (n - 1) (d - 1)
def lfts : List Tm -> Int -> Int -> Int
 | [], n, _ => n
 | t :: r, n, d => if lft t n d < 0 then -1 else lfts r (lft t n d) d
end
theorem lft_mk (t : Tm) (n d : Int) : lft t n d = if d < 1 ∨ n - 1 < 0 then -1 else lfts t.args (n - 1) (d - 1) := by
 obtain ⟨k, m, s, l⟩ := t; rw [lft]; rfl
theorem lft_le (t : Tm) : ∀ n d, -1 ≤ n -> -1 ≤ lft t n d ∧ lft t n d ≤ n := by
 induction t using Tm.ind_all with
 | h k m s l ih =>
  have hl : ∀ (r : List Tm), (∀ t ∈ r, t ∈ l) -> ∀ n d, -1 ≤ n -> -1 ≤ lfts r n d ∧ lfts r n d ≤ n := fun r => by
   induction r with
   | nil => intro _ n d hn; simp only [lfts]; omega
   | cons t r ihr =>
    intro hm n d hn; have h1 := ih t (hm t (by simp)) n d hn
    have h2 := ihr (fun x hx => hm x (by simp [hx])) (lft t n d) d h1.1
    simp only [lfts]; split <;> omega
  intro n d hn; rw [lft]; have := hl l (fun t h => h) (n - 1) (d - 1); split
  ·omega
  ·have := this (by omega); omega
theorem lfts_drop {l : List Tm} {j : Nat} {x : Tm} (h : l[j]? = some x) (n d : Int) : lfts (l.drop j) n d = if lft x n d < 0 then -1 else lfts (l.drop (j + 1)) (lft x n d) d := by
 have hj : j < l.length := (List.getElem?_eq_some_iff.1 h).1; rw [List.drop_eq_getElem_cons hj, (List.getElem?_eq_some_iff.1 h).2, lfts]
set_option maxRecDepth 100000 in
theorem left_ok (a : Tm) : ∀ n d : Int, -1 ≤ n -> n ≤ 1000 -> 0 ≤ d -> d ≤ 100 -> Fun Try.prog 23 [a.avw, .int .i64 n, .int .i64 d] (.int .i64 (lft a n d)) := by
 induction a using Tm.ind_all with
 | h k n s l ih =>
 intro m d h1 h2 h3 h4; generalize ha : Tm.mk k n s l = a; have ih : ∀ t ∈ a.args, ∀ n d : Int, -1 ≤ n -> n ≤ 1000 -> 0 ≤ d -> d ≤ 100 -> Fun Try.prog 23 [t.avw, .int .i64 n, .int .i64 d] (.int .i64 (lft t n d)) := by subst ha; exact ih
 clear ha; refine Fun.assume rfl fun hg0 => ?_; refine Fun.of (op_constraintlaw04_left (by simp) ?_) rfl rfl
 conv => whnf
 have hg := (good_tm (hg0 a.avw (by simp))).2.1
 conv => whnf
 repeat' ((first | (refine gC ?_; first | refine cY ?_ | (refine gD ?_; first | refine cI ?_ | refine cJ ?_) | refine CondN.lt (fun hc => ?_) (fun hc => ?_)) | (refine gW ?_; refine wI ?_) | (refine gL ?_; refine .map ?_) | refine RetP.nrm ?_) <;> conv => whnf)
 ·rw [lft_mk, if_pos (.inl hc)]
 ·rw [lft_mk, if_pos (.inr hc)]
 ·have e0 : lft a m d = lfts a.args (m - 1) (d - 1) := by rw [lft_mk, if_neg (by omega)]
  refine LoopP.by (fb := true) (fun s (q : Nat × Int) => s.sets [(1, .int .i64 q.2), (19, .int .i64 q.1)]) (fun q => q.1 ≤ a.args.length ∧ (0 ≤ q.2 ∧ q.2 ≤ 1000) ∧ lfts (a.args.drop q.1) q.2 (d - 1) = lft a m d) (fun q => a.args.length - q.1) (0, m - 1) ⟨Nat.zero_le _, by simp only; omega, by rw [e0]; rfl⟩ ?_ ?_
  ·exact endz
  ·rintro ⟨j, r⟩ ⟨hj, hr, he⟩; dsimp only at hj hr he ⊢
   by_cases hlt : j < a.args.length
   ·obtain ⟨x, hx⟩ : ∃ x, a.args[j]? = some x := ⟨_, List.getElem?_eq_getElem hlt⟩; rw [lfts_drop hx] at he; have hb := lft_le x r (d - 1) (by omega)
    conv => whnf
    repeat' ((first | (refine gF ?_; refine CallN.fn (ih _ (List.mem_of_getElem? (by assumption)) _ _ (by omega) (by omega) (by omega) (by omega)) ?_) | (refine gC ?_; first | (refine gD ?_; refine cI ?_) | refine CondN.lt (fun hc => ?_) (fun hc => ?_)) | (refine gW ?_; refine wI ?_) | (refine gI ?_; (refine gT ?_; refine iA ?_)) | refine RetP.nrm ?_) <;> conv => whnf)
    ·rw [if_pos (by assumption)] at he
     rw [he]
    ·rw [if_neg (by omega)] at he
     refine ⟨(j + 1, lft x r (d - 1)), ⟨⟨hlt, by simp only; omega, he⟩, by simp only; omega⟩, ?_⟩
     exact endz
   ·have hje : j = a.args.length := by omega
    subst hje; rw [List.drop_length, lfts] at he
    conv => whnf
    repeat' ((first | (refine gC ?_; (refine gD ?_; refine cJ ?_)) | refine RetP.nrm ?_) <;> conv => whnf)
    rw [he]
def Tm.small (t : Tm) : Bool := decide (0 ≤ lft t 1000 100)
set_option maxRecDepth 100000 in
theorem Small_ok (a : Tm) : Fun Try.prog 8 [a.avw] (.bool a.small) := by
 refine Fun.of (op_constraintlaw04_Small (by simp) ?_) rfl rfl
 conv => whnf
 conv => whnf
 repeat' ((first | (refine gF ?_; refine CallN.fn (left_ok _ _ _ (by omega) (by omega) (by omega) (by omega)) ?_) | refine RetP.nrm ?_) <;> conv => whnf)
 all_goals rfl
end Go.CK
namespace Go.CK
open Go.AM Go.Proofs
def Tm.use (t : Tm) : List Tm := if t.kind = 2 then t.args else []
set_option maxRecDepth 100000 in
theorem refArgs_ok {a : Tm} : Fun Try.prog 61 [a.avw] (slA Tm.av a.use) := by
 refine Fun.of (op_constraintref03_args (by simp) ?_) rfl rfl
 conv => whnf
 conv => whnf
 repeat' ((first | (refine gC ?_; refine CondN.dec (fun hc => ?_) (fun hc => ?_)) | refine RetP.nrm ?_) <;> conv => whnf)
 all_goals simp [Tm.use, *]
structure YC (P : Program) (b n0 : Nat) (xs : List (List AV)) (J : List (List AV) -> List Box -> Prop) (Jx : List Box -> Prop) : Prop where
 hb : b < n0
 hJ : ∀ pre bs', J pre bs' -> bs'.length = n0 ∧ boxesLt n0 bs' = true
 hJx : ∀ bs', Jx bs' -> bs'.length = n0 ∧ boxesLt n0 bs' = true
 hr : ∀ pre y rest bs' cs, pre ++ y :: rest = xs -> J pre bs' -> SemY P b y (bs' ++ cs) fun r bs2 => ∃ own, bs2 = own ++ cs ∧ ((r = .bool true ∧ J (pre ++ [y]) own) ∨ (r = .bool false ∧ Jx own))
end Go.CK
namespace Go.CK
open Go.AM Go.Proofs
end Go.CK
