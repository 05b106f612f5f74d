/-
  Texts of this claim joined (wip/gen/bundle.py), those declarations only that are needed: UnX RcUnr. By an AI agent.
-/
import Derived.Test.YtahooabjmaolhaaBbb
import Derived.Test.YtahooabjmaolhaaProg
import Derived.Test.YtahooabjmaolhaaBap
import Derived.Test.YtahooabjmaolhaaBav
set_option linter.unusedSimpArgs false
set_option linter.unusedVariables false
namespace Go.CK
open Go.AM Go.Proofs
theorem small_mem {l : List Tm} (h : l.all Tm.small = true) (hl : l.length ≤ 40) : Tm.nodess l ≤ 40000 := by
 have : ∀ m : List Tm, m.all Tm.small = true -> Tm.nodess m ≤ 1000 * m.length := by
  intro m
  induction m with
  | nil => intro _; simp [Tm.nodess]
  | cons x m ih =>
   intro hm; rw [List.all_cons, Bool.and_eq_true] at hm; have := ih hm.2; have := small_nodes hm.1; simp only [Tm.nodess, List.length_cons]; omega
 have := this l h; omega
def fewB (l : List Tm) : Bool := decide (l.length ≤ 40) && l.all Tm.small
set_option maxRecDepth 100000 in
theorem Few_ok (l : List Tm) : Fun Try.prog 15 [.sl .no (l.map Tm.av)] (.bool (fewB l)) := by
 refine Fun.of (Sem.assume fun hg0 _ => ?_) rfl rfl; have hg := (good_sla (hg0 (.sl .no (l.map Tm.av)) (by simp) rfl)).1
 by_cases hl : l.length ≤ 40
 rotate_left
 ·unfold fewB; rw [decide_eq_false hl, Bool.false_and]; have hl2 : ¬ ((l.length : Int) ≤ 40) := by omega
  refine op_constraintlaw07_Few (by simp) ?_
  conv => whnf
  repeat' ((first | (refine gC ?_; (refine gD ?_; refine cI ?_)) | (refine gL ?_; refine .map ?_) | refine RetP.nrm ?_) <;> conv => whnf)
 unfold fewB; rw [decide_eq_true hl, Bool.true_and]; refine op_constraintlaw07_Few (by simp) ?_
 conv => whnf
 repeat' ((first | (refine gC ?_; (refine gD ?_; refine cJ ?_)) | (refine gL ?_; refine .map ?_)) <;> conv => whnf)
 refine LoopP.by (fb := true) (fun _ (j : Nat) => ⟨[(0, .sl .no (l.map Tm.av)), (8, .int .i64 (l.length : Int)), (9, .int .i64 (j : Int))], [], 0⟩) (fun j => j ≤ l.length ∧ (l.drop j).all Tm.small = l.all Tm.small) (fun j => l.length - j) 0 ⟨Nat.zero_le _, rfl⟩ ?_ ?_
 ·exact endz
 ·rintro j ⟨q1, q2⟩
  by_cases hj : j < l.length
  ·obtain ⟨x, hx⟩ : ∃ x, l[j]? = some x := ⟨_, List.getElem?_eq_getElem hj⟩; rw [List.drop_eq_getElem_cons hj, (List.getElem?_eq_some_iff.1 hx).2, List.all_cons] at q2; have hs := Small_ok x
   cases hc : x.small with
   | true =>
    rw [hc] at hs; rw [hc, Bool.true_and] at q2
    conv => whnf
    repeat' ((first | (refine gF ?_; refine CallN.fn (hs) ?_) | (refine gC ?_; first | refine cY ?_ | refine .not ?_ | (refine gD ?_; refine cI ?_)) | (refine gW ?_; refine wI ?_) | (refine gI ?_; (refine gT ?_; refine iA ?_))) <;> conv => whnf)
    refine ⟨j + 1, ⟨⟨hj, q2⟩, by omega⟩, ?_⟩
    exact endz
   | false =>
    rw [hc] at hs; rw [hc, Bool.false_and] at q2; rw [← q2]
    conv => whnf
    repeat' ((first | (refine gF ?_; refine CallN.fn (hs) ?_) | (refine gC ?_; first | refine cN ?_ | refine .not ?_ | (refine gD ?_; refine cI ?_)) | (refine gI ?_; (refine gT ?_; refine iA ?_)) | refine RetP.nrm ?_) <;> conv => whnf)
  ·obtain rfl : j = l.length := by omega
   rw [List.drop_length, List.all_nil] at q2; rw [← q2]
   conv => whnf
   repeat' ((first | (refine gC ?_; (refine gD ?_; refine cJ ?_)) | refine RetP.nrm ?_) <;> conv => whnf)
end Go.CK
namespace Go.CK
open Go.AM Go.Proofs
variable {vals : List AV} {bs : List Box} {Q : AV -> List Box -> Prop}
def rc_p_constraintref07_graph_shape : RC :=
 (.seq
 (.reg false [0, 1] [
 oQ 4 (.mov (.c (.int .i64 0)))])
 (.seq
 (.seq
 (.reg false [0, 1, 5] [
 oQ 5 (.mov (.c (.int .i64 0)))])
 (.block 0
 (.loop
 (.seq
 (.seq
 (.reg false [0, 1, 5, 12] [
 oQ 6 (.mov (.t 5)), oQ 7 (.mov (.t 0)), oQ 8 (.nilck (.t 7)), oQ 9 (.fptr 0 (.t 8)), oQ 10 (.lod 1 false 1 (.t 9)), oQ 11 (.len false (.t 10)), oQ 12 (.bin .lss (.t 6) (.t 11))])
 (.cond (.t 12)
 .skip
 (.exit 0)))
 (.seq
 (.block 1
 (.seq
 (.reg false [0, 1, 5, 34] [
 oQ 15 (.mov (.t 0)), oQ 16 (.nilck (.t 15)), oQ 17 (.fptr 1 (.t 16)), oQ 18 (.load false 1 (.t 17)), oQ 19 (.mov (.t 5)), oQ 20 (.idx 1 (.t 18) (.t 19)), oQ 21 (.load false 1 (.t 20)), oQ 22 (.mov (.t 1)), oQ 23 (.bin .eql (.t 21) (.t 22)), oQ 24 (.mov (.t 23)), oG 25 24 true (.mov (.t 0)), oG 26 24 true (.nilck (.t 25)), oG 27 24 true (.fptr 0 (.t 26)), oG 28 24 true (.lod 1 false 1 (.t 27)), oG 29 24 true (.mov (.t 5)), oG 30 24 true (.idx 4 (.t 28) (.t 29)), oG 31 24 true (.fptr 0 (.t 30)), oG 32 24 true (.load false 1 (.t 31)), oG 33 24 true (.bin .neq (.t 32) (.c (.int .i64 1))), oQ 34 (.pick (.t 24) (.t 33) (.c (.bool false)))])
 (.cond (.t 34)
 (.seq
 (.reg false [4] [
 oQ 35 (.mov (.t 5)), oQ 4 (.mov (.t 35))])
 .ret)
 .skip)))
 (.reg false [0, 1, 5] [
 oQ 13 (.mov (.t 5)), oQ 14 (.bin .add (.t 13) (.c (.int .i64 1))), oQ 5 (.mov (.t 14))]))))))
 (.seq
 (.reg false [4] [
 oQ 4 (.mov (.c (.int .i64 (-1))))])
 .ret)))
theorem op_p_constraintref07_graph_shape (hn : vals.length ≤ 36) (h : SP Try.prog true vals bs rc_p_constraintref07_graph_shape [.slot 4] Q) : AM.Sem Try.prog 51 vals bs Q :=
 Sem.nrm (Sem.of (fn := Try.f51) (keeps := [(0, [0, 1]), (1, [0, 1, 5]), (2, [0, 1, 5, 12]), (4, [0, 1, 5, 34]), (5, [4]), (3, [0, 1, 5]), (6, [4]), (1000000, [8010, 8028])]) (solo := []) Try.func51 rfl (by kernel_rfl) (by kernel_rfl) (by kernel_rfl) hn (run_gp h))
def rc_p_constraintref07_graph_least : RC :=
 (.seq
 (.reg false [0, 1] [
 oQ 4 (.mov (.c (.int .i64 0)))])
 (.seq
 (.reg false [0, 1, 5] [
 oQ 5 (.mov (.c (.int .i64 (-1))))])
 (.seq
 (.seq
 (.reg false [0, 1, 5, 6] [
 oQ 6 (.mov (.c (.int .i64 0)))])
 (.block 0
 (.loop
 (.seq
 (.seq
 (.reg false [0, 1, 5, 6, 13] [
 oQ 7 (.mov (.t 6)), oQ 8 (.mov (.t 0)), oQ 9 (.nilck (.t 8)), oQ 10 (.fptr 0 (.t 9)), oQ 11 (.lod 1 false 1 (.t 10)), oQ 12 (.len false (.t 11)), oQ 13 (.bin .lss (.t 7) (.t 12))])
 (.cond (.t 13)
 .skip
 (.exit 0)))
 (.seq
 (.block 1
 (.seq
 (.reg false [0, 1, 5, 6, 51] [
 oQ 16 (.mov (.t 0)), oQ 17 (.nilck (.t 16)), oQ 18 (.fptr 1 (.t 17)), oQ 19 (.load false 1 (.t 18)), oQ 20 (.mov (.t 6)), oQ 21 (.idx 1 (.t 19) (.t 20)), oQ 22 (.load false 1 (.t 21)), oQ 23 (.mov (.t 1)), oQ 24 (.bin .eql (.t 22) (.t 23)), oQ 25 (.mov (.t 24)), oG 26 25 true (.mov (.t 0)), oG 27 25 true (.nilck (.t 26)), oG 28 25 true (.fptr 0 (.t 27)), oG 29 25 true (.lod 1 false 1 (.t 28)), oG 30 25 true (.mov (.t 6)), oG 31 25 true (.idx 4 (.t 29) (.t 30)), oG 32 25 true (.fptr 0 (.t 31)), oG 33 25 true (.load false 1 (.t 32)), oG 34 25 true (.bin .eql (.t 33) (.c (.int .i64 1))), oQ 35 (.pick (.t 25) (.t 34) (.c (.bool false))), oQ 36 (.mov (.t 35)), oG 37 36 true (.mov (.t 5)), oG 38 36 true (.bin .lss (.t 37) (.c (.int .i64 0))), oG 39 36 true (.mov (.t 38)), oG 40 39 false (.mov (.t 0)), oG 41 39 false (.nilck (.t 40)), oG 42 39 false (.fptr 0 (.t 41)), oG 43 39 false (.lod 1 false 1 (.t 42)), oG 44 39 false (.mov (.t 6)), oG 45 39 false (.idx 4 (.t 43) (.t 44)), oG 46 39 false (.fptr 1 (.t 45)), oG 47 39 false (.load false 1 (.t 46)), oG 48 39 false (.mov (.t 5)), oG 49 39 false (.bin .lss (.t 47) (.t 48)), oG 50 36 true (.pick (.t 39) (.c (.bool true)) (.t 49)), oQ 51 (.pick (.t 36) (.t 50) (.c (.bool false)))])
 (.cond (.t 51)
 (.reg false [0, 1, 5, 6] [
 oQ 52 (.mov (.t 0)), oQ 53 (.nilck (.t 52)), oQ 54 (.fptr 0 (.t 53)), oQ 55 (.lod 1 false 1 (.t 54)), oQ 56 (.mov (.t 6)), oQ 57 (.idx 4 (.t 55) (.t 56)), oQ 58 (.fptr 1 (.t 57)), oQ 59 (.load false 1 (.t 58)), oQ 5 (.mov (.t 59))])
 .skip)))
 (.reg false [0, 1, 5, 6] [
 oQ 14 (.mov (.t 6)), oQ 15 (.bin .add (.t 14) (.c (.int .i64 1))), oQ 6 (.mov (.t 15))]))))))
 (.seq
 (.reg false [4] [
 oQ 60 (.mov (.t 5)), oQ 4 (.mov (.t 60))])
 .ret))))
theorem op_p_constraintref07_graph_least (hn : vals.length ≤ 61) (h : SP Try.prog true vals bs rc_p_constraintref07_graph_least [.slot 4] Q) : AM.Sem Try.prog 52 vals bs Q :=
 Sem.nrm (Sem.of (fn := Try.f52) (keeps := [(0, [0, 1]), (1, [0, 1, 5]), (2, [0, 1, 5, 6]), (3, [0, 1, 5, 6, 13]), (5, [0, 1, 5, 6, 51]), (6, [0, 1, 5, 6]), (4, [0, 1, 5, 6]), (7, [4]), (1000000, [8011, 8029, 8043, 8055])]) (solo := []) Try.func52 rfl (by kernel_rfl) (by kernel_rfl) (by kernel_rfl) hn (run_gp h))
def rc_p_constraintref07_graph_term : RC :=
 (.seq
 (.reg false [0, 1, 4] [
 oQ 4 (.box (.c (.agg [(.int .i64 0), (.int .i64 0), (.str ⟨⟨[]⟩⟩), (.sl .full [])])))])
 (.seq
 (.reg false [0, 1, 4, 5] [
 oQ 8 (.mov (.t 0)), oQ 9 (.mov (.t 1)), oQ 10 (.call (.c (.fn (.func 51) [] [])) [(.t 8), (.t 9)]), oQ 5 (.mov (.t 10))])
 (.seq
 (.seq
 (.reg false [0, 1, 4, 5, 12] [
 oQ 11 (.mov (.t 5)), oQ 12 (.bin .lss (.t 11) (.c (.int .i64 0)))])
 (.cond (.t 12)
 (.seq
 (.reg false [4] [
 oQ 13 (.mov (.t 0)), oQ 14 (.mov (.t 1)), oQ 15 (.call (.c (.fn (.func 52) [] [])) [(.t 13), (.t 14)]), oQ 16 (.build [(.int .i64 0), (.int .i64 0), (.str ⟨⟨[]⟩⟩), (.sl .full [])] [(0, 1, (.c (.int .i64 1))), (1, 1, (.t 15))]), oN (.store 4 (.t 4) (.t 16))])
 .ret)
 .skip))
 (.seq
 (.reg true [0, 4, 5, 6] [
 oQ 17 (.mov (.t 0)), oQ 18 (.nilck (.t 17)), oQ 19 (.fptr 0 (.t 18)), oQ 20 (.load false 1 (.t 19)), oQ 21 (.mov (.t 5)), oQ 22 (.idx 4 (.t 20) (.t 21)), oQ 23 (.fptr 0 (.t 22)), oQ 24 (.load false 1 (.t 23)), oQ 25 (.mov (.t 0)), oQ 26 (.nilck (.t 25)), oQ 27 (.fptr 0 (.t 26)), oQ 28 (.load false 1 (.t 27)), oQ 29 (.mov (.t 5)), oQ 30 (.idx 4 (.t 28) (.t 29)), oQ 31 (.fptr 1 (.t 30)), oQ 32 (.load false 1 (.t 31)), oQ 33 (.mov (.t 0)), oQ 34 (.nilck (.t 33)), oQ 35 (.fptr 0 (.t 34)), oQ 36 (.load false 1 (.t 35)), oQ 37 (.mov (.t 5)), oQ 38 (.idx 4 (.t 36) (.t 37)), oQ 39 (.fptr 2 (.t 38)), oQ 40 (.load false 1 (.t 39)), oQ 41 (.build [(.int .i64 0), (.int .i64 0), (.str ⟨⟨[]⟩⟩), (.sl .full [])] [(0, 1, (.t 24)), (1, 1, (.t 32)), (2, 1, (.t 40))]), oQ 6 (.box (.c (.agg [(.int .i64 0), (.int .i64 0), (.str ⟨⟨[]⟩⟩), (.sl .full [])]))), oN (.store 4 (.t 6) (.t 41))])
 (.seq
 (.seq
 (.reg false [0, 4, 5, 6, 7] [
 oQ 7 (.mov (.c (.int .i64 0)))])
 (.block 0
 (.loop
 (.seq
 (.seq
 (.reg false [0, 4, 5, 6, 7, 52] [
 oQ 42 (.mov (.t 7)), oQ 43 (.mov (.t 0)), oQ 44 (.nilck (.t 43)), oQ 45 (.fptr 0 (.t 44)), oQ 46 (.lod 1 false 1 (.t 45)), oQ 47 (.mov (.t 5)), oQ 48 (.idx 4 (.t 46) (.t 47)), oQ 49 (.fptr 3 (.t 48)), oQ 50 (.load false 1 (.t 49)), oQ 51 (.len false (.t 50)), oQ 52 (.bin .lss (.t 42) (.t 51))])
 (.cond (.t 52)
 .skip
 (.exit 0)))
 (.seq
 (.block 1
 (.mult [0, 4, 5, 6, 7] [
 (0, oQ 55 (.fptr 3 (.t 6))), (0, oQ 56 (.load false 1 (.t 55))), (0, oQ 57 (.mov (.t 0))), (0, oQ 58 (.mov (.t 0))), (0, oQ 59 (.nilck (.t 58))), (0, oQ 60 (.fptr 1 (.t 59))), (0, oQ 61 (.load false 1 (.t 60))), (0, oQ 62 (.mov (.t 0))), (0, oQ 63 (.nilck (.t 62))), (0, oQ 64 (.fptr 0 (.t 63))), (0, oQ 65 (.load false 1 (.t 64))), (0, oQ 66 (.mov (.t 5))), (0, oQ 67 (.idx 4 (.t 65) (.t 66))), (0, oQ 68 (.fptr 3 (.t 67))), (0, oQ 69 (.load false 1 (.t 68))), (0, oQ 70 (.mov (.t 7))), (0, oQ 71 (.idx 1 (.t 69) (.t 70))), (0, oQ 72 (.load false 1 (.t 71))), (0, oQ 73 (.idx 1 (.t 61) (.t 72))), (0, oQ 74 (.load false 1 (.t 73))), (2, oQ 75 (.call (.c (.fn (.func 53) [] [])) [(.t 57), (.t 74)])), (0, oQ 76 (.bslice 4 [(.t 75)])), (1, oQ 77 (.eff (.appB 4) [(.t 56), (.t 76)])), (0, oQ 78 (.fptr 3 (.t 6))), (1, oN (.store 1 (.t 78) (.t 77)))]))
 (.reg false [0, 4, 5, 6, 7] [
 oQ 53 (.mov (.t 7)), oQ 54 (.bin .add (.t 53) (.c (.int .i64 1))), oQ 7 (.mov (.t 54))]))))))
 (.seq
 (.reg false [4] [
 oQ 79 (.load true 4 (.t 6)), oN (.store 4 (.t 4) (.t 79))])
 .ret))))))
theorem op_p_constraintref07_graph_term (hn : vals.length ≤ 80) (h : SP Try.prog true vals bs rc_p_constraintref07_graph_term [.cell 4 true 4] Q) : AM.Sem Try.prog 53 vals bs Q :=
 Sem.nrm (Sem.of (fn := Try.f53) (keeps := [(0, [0, 1, 4]), (1, [0, 1, 4, 5]), (2, [0, 1, 4, 5, 12]), (3, [4]), (4, [0, 4, 5, 6]), (5, [0, 4, 5, 6, 7]), (6, [0, 4, 5, 6, 7, 52]), (8, [0, 4, 5, 6, 7]), (7, [0, 4, 5, 6, 7]), (9, [4]), (1000000, [77, 8046]), (2000008, [0, 1, 2, 3, 4, 5, 6, 7, 8, 9, 10, 11, 12, 13, 14, 15, 16, 17, 18, 19, 20, 21, 22, 23, 24]), (3000008, [0, 0, 0, 0, 0, 0, 0, 0, 0, 0, 0, 0, 0, 0, 0, 0, 0, 0, 0, 0, 2, 0, 1, 0, 1])]) (solo := []) Try.func53 rfl (by kernel_rfl) (by kernel_rfl) (by kernel_rfl) hn (run_gp h))
def rc_p_constraintref07_graph_join : RC :=
 (.seq
 (.reg false [0, 1, 2] [
 oQ 6 (.mov (.c (.bool false)))])
 (.seq
 (.reg true [0, 7, 8] [
 oQ 15 (.mov (.t 0)), oQ 16 (.nilck (.t 15)), oQ 17 (.fptr 1 (.t 16)), oQ 18 (.load false 1 (.t 17)), oQ 19 (.mov (.t 1)), oQ 20 (.idx 1 (.t 18) (.t 19)), oQ 21 (.load false 1 (.t 20)), oQ 22 (.mov (.t 0)), oQ 23 (.nilck (.t 22)), oQ 24 (.fptr 1 (.t 23)), oQ 25 (.load false 1 (.t 24)), oQ 26 (.mov (.t 2)), oQ 27 (.idx 1 (.t 25) (.t 26)), oQ 28 (.load false 1 (.t 27)), oQ 7 (.mov (.t 21)), oQ 8 (.mov (.t 28))])
 (.seq
 (.seq
 (.reg false [0, 7, 8, 31] [
 oQ 29 (.mov (.t 7)), oQ 30 (.mov (.t 8)), oQ 31 (.bin .eql (.t 29) (.t 30))])
 (.cond (.t 31)
 (.seq
 (.reg false [6] [
 oQ 6 (.mov (.c (.bool true)))])
 .ret)
 .skip))
 (.seq
 (.reg false [0, 7, 8, 9, 10] [
 oQ 32 (.mov (.t 0)), oQ 33 (.mov (.t 7)), oQ 34 (.call (.c (.fn (.func 51) [] [])) [(.t 32), (.t 33)]), oQ 35 (.mov (.t 0)), oQ 36 (.mov (.t 8)), oQ 37 (.call (.c (.fn (.func 51) [] [])) [(.t 35), (.t 36)]), oQ 9 (.mov (.t 34)), oQ 10 (.mov (.t 37))])
 (.seq
 (.seq
 (.reg false [0, 7, 8, 9, 10, 11] [
 oQ 11 (.mov (.c (.int .i64 0)))])
 (.block 0
 (.loop
 (.seq
 (.seq
 (.reg false [0, 7, 8, 9, 10, 11, 44] [
 oQ 38 (.mov (.t 11)), oQ 39 (.mov (.t 0)), oQ 40 (.nilck (.t 39)), oQ 41 (.fptr 1 (.t 40)), oQ 42 (.load false 1 (.t 41)), oQ 43 (.len false (.t 42)), oQ 44 (.bin .lss (.t 38) (.t 43))])
 (.cond (.t 44)
 .skip
 (.exit 0)))
 (.seq
 (.block 1
 (.seq
 (.reg false [0, 7, 8, 9, 10, 11, 55] [
 oQ 47 (.mov (.t 0)), oQ 48 (.nilck (.t 47)), oQ 49 (.fptr 1 (.t 48)), oQ 50 (.load false 1 (.t 49)), oQ 51 (.mov (.t 11)), oQ 52 (.idx 1 (.t 50) (.t 51)), oQ 53 (.load false 1 (.t 52)), oQ 54 (.mov (.t 8)), oQ 55 (.bin .eql (.t 53) (.t 54))])
 (.cond (.t 55)
 (.reg false [0, 7, 8, 9, 10, 11] [
 oQ 56 (.mov (.t 0)), oQ 57 (.nilck (.t 56)), oQ 58 (.fptr 1 (.t 57)), oQ 59 (.load false 1 (.t 58)), oQ 60 (.mov (.t 11)), oQ 61 (.mov (.t 7)), oQ 62 (.idx 1 (.t 59) (.t 60)), oN (.store 1 (.t 62) (.t 61))])
 .skip)))
 (.reg false [0, 7, 8, 9, 10, 11] [
 oQ 45 (.mov (.t 11)), oQ 46 (.bin .add (.t 45) (.c (.int .i64 1))), oQ 11 (.mov (.t 46))]))))))
 (.seq
 (.seq
 (.reg false [0, 9, 10, 68] [
 oQ 63 (.mov (.t 9)), oQ 64 (.bin .lss (.t 63) (.c (.int .i64 0))), oQ 65 (.mov (.t 64)), oG 66 65 false (.mov (.t 10)), oG 67 65 false (.bin .lss (.t 66) (.c (.int .i64 0))), oQ 68 (.pick (.t 65) (.c (.bool true)) (.t 67))])
 (.cond (.t 68)
 (.seq
 (.reg false [6] [
 oQ 6 (.mov (.c (.bool true)))])
 .ret)
 .skip))
 (.seq
 (.both [0, 12, 13] [
 (0, oQ 69 (.mov (.t 0))), (0, oQ 70 (.nilck (.t 69))), (0, oQ 71 (.fptr 0 (.t 70))), (0, oQ 72 (.load false 1 (.t 71))), (0, oQ 73 (.mov (.t 9))), (0, oQ 74 (.idx 4 (.t 72) (.t 73))), (0, oQ 75 (.load true 4 (.t 74))), (0, oQ 76 (.mov (.t 0))), (0, oQ 77 (.nilck (.t 76))), (0, oQ 78 (.fptr 0 (.t 77))), (0, oQ 79 (.lod 1 false 1 (.t 78))), (0, oQ 80 (.mov (.t 10))), (0, oQ 81 (.idx 4 (.t 79) (.t 80))), (0, oQ 82 (.more (.lde true 4) [(.t 81)]))] [
 (0, oQ 12 (.box (.c (.agg [(.int .i64 0), (.int .i64 0), (.str ⟨⟨[]⟩⟩), (.sl .full [])])))), (0, oQ 13 (.box (.c (.agg [(.int .i64 0), (.int .i64 0), (.str ⟨⟨[]⟩⟩), (.sl .full [])])))), (0, oN (.stn 1 4 (.t 12) (.t 75))), (0, oN (.store 4 (.t 13) (.t 82)))] [
 (0, oQ 13 (.box (.c (.agg [(.int .i64 0), (.int .i64 0), (.str ⟨⟨[]⟩⟩), (.sl .full [])])))), (0, oQ 12 (.box (.c (.agg [(.int .i64 0), (.int .i64 0), (.str ⟨⟨[]⟩⟩), (.sl .full [])])))), (0, oN (.stn 1 4 (.t 12) (.t 75))), (0, oN (.store 4 (.t 13) (.t 82)))])
 (.seq
 (.seq
 (.reg false [0, 12, 13, 110] [
 oQ 83 (.fptr 0 (.t 12)), oQ 84 (.load false 1 (.t 83)), oQ 85 (.fptr 0 (.t 13)), oQ 86 (.load false 1 (.t 85)), oQ 87 (.bin .neq (.t 84) (.t 86)), oQ 88 (.mov (.t 87)), oG 89 88 false (.fptr 1 (.t 12)), oG 90 88 false (.load false 1 (.t 89)), oG 91 88 false (.fptr 1 (.t 13)), oG 92 88 false (.load false 1 (.t 91)), oG 93 88 false (.bin .neq (.t 90) (.t 92)), oQ 94 (.pick (.t 88) (.c (.bool true)) (.t 93)), oQ 95 (.mov (.t 94)), oG 96 95 false (.fptr 2 (.t 12)), oG 97 95 false (.load false 1 (.t 96)), oG 98 95 false (.fptr 2 (.t 13)), oG 99 95 false (.load false 1 (.t 98)), oG 100 95 false (.bin .neq (.t 97) (.t 99)), oQ 101 (.pick (.t 95) (.c (.bool true)) (.t 100)), oQ 102 (.mov (.t 101)), oG 103 102 false (.fptr 3 (.t 12)), oG 104 102 false (.load false 1 (.t 103)), oG 105 102 false (.len false (.t 104)), oG 106 102 false (.fptr 3 (.t 13)), oG 107 102 false (.load false 1 (.t 106)), oG 108 102 false (.len false (.t 107)), oG 109 102 false (.bin .neq (.t 105) (.t 108)), oQ 110 (.pick (.t 102) (.c (.bool true)) (.t 109))])
 (.cond (.t 110)
 (.seq
 (.reg false [6] [
 oQ 6 (.mov (.c (.bool false)))])
 .ret)
 .skip))
 (.seq
 (.seq
 (.reg false [0, 12, 13, 14] [
 oQ 14 (.mov (.c (.int .i64 0)))])
 (.block 2
 (.loop
 (.seq
 (.seq
 (.reg false [0, 12, 13, 14, 115] [
 oQ 111 (.mov (.t 14)), oQ 112 (.fptr 3 (.t 12)), oQ 113 (.load false 1 (.t 112)), oQ 114 (.len false (.t 113)), oQ 115 (.bin .lss (.t 111) (.t 114))])
 (.cond (.t 115)
 .skip
 (.exit 2)))
 (.seq
 (.block 3
 (.seq
 (.mult [0, 12, 13, 14, 130] [
 (0, oQ 118 (.mov (.t 0))), (0, oQ 119 (.fptr 3 (.t 12))), (0, oQ 120 (.load false 1 (.t 119))), (0, oQ 121 (.mov (.t 14))), (0, oQ 122 (.idx 1 (.t 120) (.t 121))), (0, oQ 123 (.load false 1 (.t 122))), (0, oQ 124 (.fptr 3 (.t 13))), (0, oQ 125 (.load false 1 (.t 124))), (0, oQ 126 (.mov (.t 14))), (0, oQ 127 (.idx 1 (.t 125) (.t 126))), (0, oQ 128 (.load false 1 (.t 127))), (1, oQ 129 (.call (.c (.fn (.func 49) [] [])) [(.t 118), (.t 123), (.t 128)])), (0, oQ 130 (.un .not (.t 129)))])
 (.cond (.t 130)
 (.seq
 (.reg false [6] [
 oQ 6 (.mov (.c (.bool false)))])
 .ret)
 .skip)))
 (.reg false [0, 12, 13, 14] [
 oQ 116 (.mov (.t 14)), oQ 117 (.bin .add (.t 116) (.c (.int .i64 1))), oQ 14 (.mov (.t 117))]))))))
 (.seq
 (.reg false [6] [
 oQ 6 (.mov (.c (.bool true)))])
 .ret))))))))))
theorem op_p_constraintref07_graph_join (hn : vals.length ≤ 131) (h : SP Try.prog true vals bs rc_p_constraintref07_graph_join [.slot 6] Q) : AM.Sem Try.prog 49 vals bs Q :=
 Sem.nrm (Sem.of (fn := Try.f49) (keeps := [(0, [0, 1, 2]), (1, [0, 7, 8]), (2, [0, 7, 8, 31]), (3, [6]), (4, [0, 7, 8, 9, 10]), (5, [0, 7, 8, 9, 10, 11]), (6, [0, 7, 8, 9, 10, 11, 44]), (8, [0, 7, 8, 9, 10, 11, 55]), (9, [0, 7, 8, 9, 10, 11]), (7, [0, 7, 8, 9, 10, 11]), (10, [0, 9, 10, 68]), (11, [6]), (12, [0, 12, 13]), (13, [0, 12, 13, 110]), (14, [6]), (15, [0, 12, 13, 14]), (16, [0, 12, 13, 14, 115]), (18, [0, 12, 13, 14, 130]), (19, [6]), (17, [0, 12, 13, 14]), (20, [6]), (1000000, [9012, 8079, 82]), (4000012, [14, 15, 0, 1, 2, 3, 4, 5, 6, 7, 8, 9, 10, 11, 12, 13]), (5000012, [15, 16, 17]), (6000012, [14, 16, 17]), (2000018, [0, 1, 2, 3, 4, 5, 6, 7, 8, 9, 10, 11, 12]), (3000018, [0, 0, 0, 0, 0, 0, 0, 0, 0, 0, 0, 1, 0])]) (solo := []) Try.func49 rfl (by kernel_rfl) (by kernel_rfl) (by kernel_rfl) hn (run_gp h))
def rc_p_constraintref07_graph_enter : RC :=
 (.seq
 (.reg false [0, 3] [
 oQ 3 (.box (.t 1)), oQ 4 (.mov (.c (.int .i64 0)))])
 (.seq
 (.seq
 (.reg false [0, 3, 10] [
 oQ 8 (.fptr 0 (.t 3)), oQ 9 (.load false 1 (.t 8)), oQ 10 (.bin .eql (.t 9) (.c (.int .i64 1)))])
 (.cond (.t 10)
 (.seq
 (.reg false [0, 3, 5] [
 oQ 5 (.mov (.c (.int .i64 0)))])
 (.block 0
 (.loop
 (.seq
 (.seq
 (.reg false [0, 3, 5, 17] [
 oQ 11 (.mov (.t 5)), oQ 12 (.mov (.t 0)), oQ 13 (.nilck (.t 12)), oQ 14 (.fptr 0 (.t 13)), oQ 15 (.lod 1 false 1 (.t 14)), oQ 16 (.len false (.t 15)), oQ 17 (.bin .lss (.t 11) (.t 16))])
 (.cond (.t 17)
 .skip
 (.exit 0)))
 (.seq
 (.block 1
 (.seq
 (.reg true [0, 3, 5, 41] [
 oQ 20 (.take 0), oQ 21 (.nilck (.t 20)), oQ 22 (.fptr 0 (.t 21)), oQ 23 (.load false 1 (.t 22)), oQ 24 (.take 5), oQ 25 (.idx 4 (.t 23) (.t 24)), oQ 26 (.fptr 0 (.t 25)), oQ 27 (.load false 1 (.t 26)), oQ 28 (.bin .eql (.t 27) (.c (.int .i64 1))), oQ 29 (.take 28), oG 30 29 true (.take 0), oG 31 29 true (.nilck (.t 30)), oG 32 29 true (.fptr 0 (.t 31)), oG 33 29 true (.load false 1 (.t 32)), oG 34 29 true (.take 5), oG 35 29 true (.idx 4 (.t 33) (.t 34)), oG 36 29 true (.fptr 1 (.t 35)), oG 37 29 true (.load false 1 (.t 36)), oG 38 29 true (.fptr 1 (.t 3)), oG 39 29 true (.load false 1 (.t 38)), oG 40 29 true (.bin .eql (.t 37) (.t 39)), oQ 41 (.pick (.t 29) (.t 40) (.c (.bool false)))])
 (.cond (.t 41)
 (.seq
 (.reg false [4] [
 oQ 42 (.mov (.t 5)), oQ 4 (.mov (.t 42))])
 .ret)
 .skip)))
 (.reg false [0, 3, 5] [
 oQ 18 (.mov (.t 5)), oQ 19 (.bin .add (.t 18) (.c (.int .i64 1))), oQ 5 (.mov (.t 19))]))))))
 .skip))
 (.seq
 (.reg false [0, 3, 6] [
 oQ 43 (.fptr 0 (.t 3)), oQ 44 (.load false 1 (.t 43)), oQ 45 (.fptr 1 (.t 3)), oQ 46 (.load false 1 (.t 45)), oQ 47 (.fptr 2 (.t 3)), oQ 48 (.load false 1 (.t 47)), oQ 49 (.build [(.int .i64 0), (.int .i64 0), (.str ⟨⟨[]⟩⟩), (.sl .full [])] [(0, 1, (.t 44)), (1, 1, (.t 46)), (2, 1, (.t 48))]), oQ 6 (.box (.c (.agg [(.int .i64 0), (.int .i64 0), (.str ⟨⟨[]⟩⟩), (.sl .full [])]))), oN (.store 4 (.t 6) (.t 49))])
 (.seq
 (.seq
 (.reg false [0, 3, 6, 7] [
 oQ 7 (.mov (.c (.int .i64 0)))])
 (.block 2
 (.loop
 (.seq
 (.seq
 (.reg false [0, 3, 6, 7, 54] [
 oQ 50 (.mov (.t 7)), oQ 51 (.fptr 3 (.t 3)), oQ 52 (.load false 1 (.t 51)), oQ 53 (.len false (.t 52)), oQ 54 (.bin .lss (.t 50) (.t 53))])
 (.cond (.t 54)
 .skip
 (.exit 2)))
 (.seq
 (.block 3
 (.mult [0, 3, 6, 7] [
 (0, oQ 57 (.fptr 3 (.t 6))), (0, oQ 58 (.load false 1 (.t 57))), (0, oQ 59 (.mov (.t 0))), (0, oQ 60 (.fptr 3 (.t 3))), (0, oQ 61 (.load false 1 (.t 60))), (0, oQ 62 (.mov (.t 7))), (0, oQ 63 (.idx 4 (.t 61) (.t 62))), (0, oQ 64 (.load true 4 (.t 63))), (2, oQ 65 (.call (.c (.fn (.func 48) [] [])) [(.t 59), (.t 64)])), (0, oQ 66 (.bslice 1 [(.t 65)])), (1, oQ 67 (.eff (.appB 1) [(.t 58), (.t 66)])), (0, oQ 68 (.fptr 3 (.t 6))), (1, oN (.store 1 (.t 68) (.t 67)))]))
 (.reg false [0, 3, 6, 7] [
 oQ 55 (.mov (.t 7)), oQ 56 (.bin .add (.t 55) (.c (.int .i64 1))), oQ 7 (.mov (.t 56))]))))))
 (.seq
 (.mult [0] [
 (0, oQ 69 (.mov (.t 0))), (0, oQ 70 (.mov (.t 0))), (0, oQ 71 (.nilck (.t 70))), (0, oQ 72 (.fptr 0 (.t 71))), (0, oQ 74 (.load true 4 (.t 6))), (0, oQ 75 (.bslice 4 [(.t 74)])), (2, oQ 73 (.load false 1 (.t 72))), (0, oQ 76 (.append 4 (.t 73) (.t 75))), (0, oQ 77 (.nilck (.t 69))), (0, oQ 78 (.fptr 0 (.t 77))), (1, oN (.store 1 (.t 78) (.t 76)))])
 (.seq
 (.mult [0] [
 (0, oQ 79 (.mov (.t 0))), (0, oQ 80 (.mov (.t 0))), (0, oQ 81 (.nilck (.t 80))), (0, oQ 82 (.fptr 1 (.t 81))), (0, oQ 83 (.load false 1 (.t 82))), (0, oQ 84 (.mov (.t 0))), (0, oQ 85 (.nilck (.t 84))), (0, oQ 86 (.fptr 0 (.t 85))), (0, oQ 87 (.load false 1 (.t 86))), (0, oQ 88 (.len false (.t 87))), (0, oQ 89 (.bin .sub (.t 88) (.c (.int .i64 1)))), (0, oQ 90 (.bslice 1 [(.t 89)])), (2, oQ 91 (.eff (.appB 1) [(.t 83), (.t 90)])), (0, oQ 92 (.nilck (.t 79))), (0, oQ 93 (.fptr 1 (.t 92))), (1, oN (.store 1 (.t 93) (.t 91)))])
 (.seq
 (.reg false [4] [
 oQ 94 (.mov (.t 0)), oQ 95 (.nilck (.t 94)), oQ 96 (.fptr 0 (.t 95)), oQ 97 (.lod 1 false 1 (.t 96)), oQ 98 (.len false (.t 97)), oQ 99 (.bin .sub (.t 98) (.c (.int .i64 1))), oQ 4 (.mov (.t 99))])
 .ret)))))))
theorem op_p_constraintref07_graph_enter (hn : vals.length ≤ 100) (h : SP Try.prog true vals bs rc_p_constraintref07_graph_enter [.slot 4] Q) : AM.Sem Try.prog 48 vals bs Q :=
 Sem.nrm (Sem.of (fn := Try.f48) (keeps := [(0, [0, 3]), (1, [0, 3, 10]), (2, [0, 3, 5]), (3, [0, 3, 5, 17]), (5, [0, 3, 5, 41]), (6, [4]), (4, [0, 3, 5]), (7, [0, 3, 6]), (8, [0, 3, 6, 7]), (9, [0, 3, 6, 7, 54]), (11, [0, 3, 6, 7]), (10, [0, 3, 6, 7]), (12, [0]), (13, [0]), (14, [4]), (1000000, [67, 91, 8015, 8097]), (2000011, [0, 1, 2, 3, 4, 5, 6, 7, 8, 9, 10, 11, 12]), (3000011, [0, 0, 0, 0, 0, 0, 0, 0, 2, 0, 1, 0, 1]), (2000012, [0, 1, 2, 3, 5, 6, 4, 7, 8, 9, 10]), (3000012, [0, 0, 0, 0, 2, 0, 0, 0, 0, 0, 1]), (2000013, [0, 1, 2, 3, 4, 5, 6, 7, 8, 9, 10, 11, 12, 13, 14, 15]), (3000013, [0, 0, 0, 0, 0, 0, 0, 0, 0, 0, 0, 0, 2, 0, 0, 1])]) (solo := []) Try.func48 rfl (by kernel_rfl) (by kernel_rfl) (by kernel_rfl) hn (run_gp h))
def rc_p_constraintref07_graph_measured : RC :=
 (.seq
 (.reg false [0] [
 oQ 2 (.mov (.c (.sl .full []))), oQ 3 (.mov (.c (.bool false)))])
 (.seq
 (.reg false [0, 4] [
 oQ 15 (.mov (.t 0)), oQ 16 (.nilck (.t 15)), oQ 17 (.fptr 0 (.t 16)), oQ 18 (.lod 1 false 1 (.t 17)), oQ 19 (.len false (.t 18)), oQ 20 (.eff (.mkB 2 (.agg [(.int .i64 0), (.int .i64 0)])) [(.t 19), (.t 19)]), oQ 4 (.mov (.t 20))])
 (.seq
 (.reg false [0, 4, 5] [
 oQ 5 (.mov (.c (.int .i64 0)))])
 (.seq
 (.seq
 (.reg false [0, 4, 5, 6] [
 oQ 6 (.mov (.c (.int .i64 0)))])
 (.block 0
 (.loop
 (.seq
 (.seq
 (.reg false [0, 4, 5, 6, 27] [
 oQ 21 (.mov (.t 6)), oQ 22 (.mov (.t 0)), oQ 23 (.nilck (.t 22)), oQ 24 (.fptr 0 (.t 23)), oQ 25 (.lod 1 false 1 (.t 24)), oQ 26 (.len false (.t 25)), oQ 27 (.bin .lss (.t 21) (.t 26))])
 (.cond (.t 27)
 .skip
 (.exit 0)))
 (.seq
 (.block 1
 (.seq
 (.reg false [0, 4, 5, 6, 38] [
 oQ 30 (.mov (.t 0)), oQ 31 (.nilck (.t 30)), oQ 32 (.fptr 1 (.t 31)), oQ 33 (.load false 1 (.t 32)), oQ 34 (.mov (.t 6)), oQ 35 (.idx 1 (.t 33) (.t 34)), oQ 36 (.load false 1 (.t 35)), oQ 37 (.mov (.t 6)), oQ 38 (.bin .eql (.t 36) (.t 37))])
 (.cond (.t 38)
 (.reg false [0, 4, 5, 6] [
 oQ 39 (.mov (.t 5)), oQ 40 (.bin .add (.t 39) (.c (.int .i64 1))), oQ 5 (.mov (.t 40))])
 .skip)))
 (.reg false [0, 4, 5, 6] [
 oQ 28 (.mov (.t 6)), oQ 29 (.bin .add (.t 28) (.c (.int .i64 1))), oQ 6 (.mov (.t 29))]))))))
 (.seq
 (.block 2
 (.loop
 (.seq
 (.seq
 (.reg false [0, 4, 5, 42] [
 oQ 41 (.mov (.t 5)), oQ 42 (.bin .gtr (.t 41) (.c (.int .i64 0)))])
 (.cond (.t 42)
 .skip
 (.exit 2)))
 (.block 3
 (.seq
 (.reg false [0, 4, 5, 7] [
 oQ 43 (.mov (.t 5)), oQ 7 (.mov (.t 43))])
 (.seq
 (.seq
 (.reg false [0, 4, 5, 7, 8] [
 oQ 8 (.mov (.c (.int .i64 0)))])
 (.block 4
 (.loop
 (.seq
 (.seq
 (.reg false [0, 4, 5, 7, 8, 50] [
 oQ 44 (.mov (.t 8)), oQ 45 (.mov (.t 0)), oQ 46 (.nilck (.t 45)), oQ 47 (.fptr 0 (.t 46)), oQ 48 (.lod 1 false 1 (.t 47)), oQ 49 (.len false (.t 48)), oQ 50 (.bin .lss (.t 44) (.t 49))])
 (.cond (.t 50)
 .skip
 (.exit 4)))
 (.seq
 (.block 5
 (.seq
 (.reg false [0, 4, 5, 7, 8, 9] [
 oQ 53 (.mov (.t 0)), oQ 54 (.nilck (.t 53)), oQ 55 (.fptr 1 (.t 54)), oQ 56 (.load false 1 (.t 55)), oQ 57 (.mov (.t 8)), oQ 58 (.idx 1 (.t 56) (.t 57)), oQ 59 (.load false 1 (.t 58)), oQ 9 (.mov (.t 59))])
 (.seq
 (.seq
 (.reg false [0, 4, 5, 7, 8, 9, 65] [
 oQ 60 (.mov (.t 4)), oQ 61 (.mov (.t 9)), oQ 62 (.idx 2 (.t 60) (.t 61)), oQ 63 (.fptr 0 (.t 62)), oQ 64 (.load false 1 (.t 63)), oQ 65 (.bin .gtr (.t 64) (.c (.int .i64 0)))])
 (.cond (.t 65)
 (.exit 5)
 .skip))
 (.seq
 (.reg false [0, 4, 5, 7, 8, 9, 10] [
 oQ 66 (.mov (.t 0)), oQ 67 (.mov (.t 9)), oQ 68 (.call (.c (.fn (.func 51) [] [])) [(.t 66), (.t 67)]), oQ 10 (.mov (.t 68))])
 (.seq
 (.reg false [0, 4, 5, 7, 8, 9, 10, 11] [
 oQ 69 (.build [(.int .i64 0), (.int .i64 0)] [(0, 1, (.c (.int .i64 1))), (1, 1, (.c (.int .i64 1)))]), oQ 11 (.box (.c (.agg [(.int .i64 0), (.int .i64 0)]))), oN (.store 2 (.t 11) (.t 69))])
 (.seq
 (.reg false [0, 4, 5, 7, 8, 9, 10, 11, 12] [
 oQ 12 (.mov (.c (.bool true)))])
 (.seq
 (.seq
 (.reg false [0, 4, 5, 7, 8, 9, 10, 11, 12, 13] [
 oQ 13 (.mov (.c (.int .i64 0)))])
 (.block 6
 (.loop
 (.seq
 (.seq
 (.reg false [0, 4, 5, 7, 8, 9, 10, 11, 12, 13, 84] [
 oQ 70 (.mov (.t 10)), oQ 71 (.bin .geq (.t 70) (.c (.int .i64 0))), oQ 72 (.mov (.t 71)), oG 73 72 true (.mov (.t 13)), oG 74 72 true (.mov (.t 0)), oG 75 72 true (.nilck (.t 74)), oG 76 72 true (.fptr 0 (.t 75)), oG 77 72 true (.lod 1 false 1 (.t 76)), oG 78 72 true (.mov (.t 10)), oG 79 72 true (.idx 4 (.t 77) (.t 78)), oG 80 72 true (.fptr 3 (.t 79)), oG 81 72 true (.load false 1 (.t 80)), oG 82 72 true (.len false (.t 81)), oG 83 72 true (.bin .lss (.t 73) (.t 82)), oQ 84 (.pick (.t 72) (.t 83) (.c (.bool false)))])
 (.cond (.t 84)
 .skip
 (.exit 6)))
 (.seq
 (.block 7
 (.seq
 (.reg true [0, 4, 5, 7, 8, 9, 10, 11, 12, 13, 14] [
 oQ 87 (.mov (.t 4)), oQ 88 (.mov (.t 0)), oQ 89 (.nilck (.t 88)), oQ 90 (.fptr 1 (.t 89)), oQ 91 (.load false 1 (.t 90)), oQ 92 (.mov (.t 0)), oQ 93 (.nilck (.t 92)), oQ 94 (.fptr 0 (.t 93)), oQ 95 (.load false 1 (.t 94)), oQ 96 (.mov (.t 10)), oQ 97 (.idx 4 (.t 95) (.t 96)), oQ 98 (.fptr 3 (.t 97)), oQ 99 (.load false 1 (.t 98)), oQ 100 (.mov (.t 13)), oQ 101 (.idx 1 (.t 99) (.t 100)), oQ 102 (.load false 1 (.t 101)), oQ 103 (.idx 1 (.t 91) (.t 102)), oQ 104 (.load false 1 (.t 103)), oQ 105 (.idx 2 (.t 87) (.t 104)), oQ 106 (.load true 2 (.t 105)), oQ 14 (.box (.c (.agg [(.int .i64 0), (.int .i64 0)]))), oN (.store 2 (.t 14) (.t 106))])
 (.seq
 (.reg false [0, 4, 5, 7, 8, 9, 10, 11, 12, 13, 14] [
 oQ 107 (.mov (.t 12)), oQ 108 (.mov (.t 107)), oG 109 108 true (.fptr 0 (.t 14)), oG 110 108 true (.load false 1 (.t 109)), oG 111 108 true (.bin .gtr (.t 110) (.c (.int .i64 0))), oQ 112 (.pick (.t 108) (.t 111) (.c (.bool false))), oQ 12 (.mov (.t 112))])
 (.seq
 (.reg false [0, 4, 5, 7, 8, 9, 10, 11, 12, 13, 14] [
 oQ 113 (.fptr 0 (.t 11)), oQ 114 (.load false 1 (.t 113)), oQ 115 (.fptr 0 (.t 14)), oQ 116 (.load false 1 (.t 115)), oQ 117 (.bin .add (.t 114) (.t 116)), oQ 118 (.minmax false (.t 117) (.c (.int .i64 201))), oQ 119 (.fptr 0 (.t 11)), oN (.store 1 (.t 119) (.t 118))])
 (.reg false [0, 4, 5, 7, 8, 9, 10, 11, 12, 13] [
 oQ 120 (.fptr 1 (.t 11)), oQ 121 (.load false 1 (.t 120)), oQ 122 (.fptr 1 (.t 14)), oQ 123 (.load false 1 (.t 122)), oQ 124 (.bin .add (.t 123) (.c (.int .i64 1))), oQ 125 (.minmax true (.t 121) (.t 124)), oQ 126 (.minmax false (.t 125) (.c (.int .i64 21))), oQ 127 (.fptr 1 (.t 11)), oN (.store 1 (.t 127) (.t 126))])))))
 (.reg false [0, 4, 5, 7, 8, 9, 10, 11, 12, 13] [
 oQ 85 (.mov (.t 13)), oQ 86 (.bin .add (.t 85) (.c (.int .i64 1))), oQ 13 (.mov (.t 86))]))))))
 (.seq
 (.reg false [0, 4, 5, 7, 8, 9, 11, 128] [
 oQ 128 (.mov (.t 12))])
 (.cond (.t 128)
 (.seq
 (.reg false [0, 4, 5, 7, 8] [
 oQ 129 (.mov (.t 4)), oQ 130 (.mov (.t 9)), oQ 131 (.load true 2 (.t 11)), oQ 132 (.idx 2 (.t 129) (.t 130)), oN (.store 2 (.t 132) (.t 131))])
 (.reg false [0, 4, 5, 7, 8] [
 oQ 133 (.mov (.t 5)), oQ 134 (.bin .sub (.t 133) (.c (.int .i64 1))), oQ 5 (.mov (.t 134))]))
 .skip)))))))))
 (.reg false [0, 4, 5, 7, 8] [
 oQ 51 (.mov (.t 8)), oQ 52 (.bin .add (.t 51) (.c (.int .i64 1))), oQ 8 (.mov (.t 52))]))))))
 (.seq
 (.reg false [0, 4, 5, 137] [
 oQ 135 (.mov (.t 5)), oQ 136 (.mov (.t 7)), oQ 137 (.bin .eql (.t 135) (.t 136))])
 (.cond (.t 137)
 (.seq
 (.reg false [2, 3] [
 oQ 2 (.mov (.c (.sl .full []))), oQ 3 (.mov (.c (.bool false)))])
 .ret)
 .skip))))))))
 (.seq
 (.reg false [2, 3] [
 oQ 138 (.mov (.t 4)), oQ 2 (.mov (.t 138)), oQ 3 (.mov (.c (.bool true)))])
 .ret))))))
theorem op_p_constraintref07_graph_measured (hn : vals.length ≤ 139) (h : SP Try.prog true vals bs rc_p_constraintref07_graph_measured [.slot 2, .slot 3] Q) : AM.Sem Try.prog 50 vals bs Q :=
 Sem.nrm (Sem.of (fn := Try.f50) (keeps := [(0, [0]), (1, [0, 4]), (2, [0, 4, 5]), (3, [0, 4, 5, 6]), (4, [0, 4, 5, 6, 27]), (6, [0, 4, 5, 6, 38]), (7, [0, 4, 5, 6]), (5, [0, 4, 5, 6]), (8, [0, 4, 5, 42]), (9, [0, 4, 5, 7]), (10, [0, 4, 5, 7, 8]), (11, [0, 4, 5, 7, 8, 50]), (13, [0, 4, 5, 7, 8, 9]), (14, [0, 4, 5, 7, 8, 9, 65]), (15, [0, 4, 5, 7, 8, 9, 10]), (16, [0, 4, 5, 7, 8, 9, 10, 11]), (17, [0, 4, 5, 7, 8, 9, 10, 11, 12]), (18, [0, 4, 5, 7, 8, 9, 10, 11, 12, 13]), (19, [0, 4, 5, 7, 8, 9, 10, 11, 12, 13, 84]), (21, [0, 4, 5, 7, 8, 9, 10, 11, 12, 13, 14]), (22, [0, 4, 5, 7, 8, 9, 10, 11, 12, 13, 14]), (23, [0, 4, 5, 7, 8, 9, 10, 11, 12, 13, 14]), (24, [0, 4, 5, 7, 8, 9, 10, 11, 12, 13]), (20, [0, 4, 5, 7, 8, 9, 10, 11, 12, 13]), (25, [0, 4, 5, 7, 8, 9, 11, 128]), (26, [0, 4, 5, 7, 8]), (27, [0, 4, 5, 7, 8]), (12, [0, 4, 5, 7, 8]), (28, [0, 4, 5, 137]), (29, [2, 3]), (30, [2, 3]), (1000000, [20, 8018, 8025, 8048, 8077])]) (solo := []) Try.func50 rfl (by kernel_rfl) (by kernel_rfl) (by kernel_rfl) hn (run_gp h))
def rc_constraintref07_solve : RC :=
 (.seq
 (.reg false [0, 1] [
 oQ 4 (.mov (.c (.sl .full []))), oQ 5 (.mov (.c (.int .i64 0)))])
 (.seq
 (.reg false [0, 1, 6] [
 oQ 18 (.build [(.sl .full []), (.sl .full [])] []), oQ 19 (.box (.t 18)), oQ 6 (.mov (.t 19))])
 (.seq
 (.seq
 (.reg false [0, 1, 6, 7] [
 oQ 7 (.mov (.c (.int .i64 0)))])
 (.block 0
 (.loop
 (.seq
 (.seq
 (.reg false [0, 1, 6, 7, 23] [
 oQ 20 (.mov (.t 7)), oQ 21 (.mov (.t 0)), oQ 22 (.len false (.t 21)), oQ 23 (.bin .lss (.t 20) (.t 22))])
 (.cond (.t 23)
 .skip
 (.exit 0)))
 (.seq
 (.block 1
 (.seq
 (.reg false [0, 1, 6, 7, 8] [
 oQ 26 (.mov (.t 6)), oQ 27 (.mov (.t 0)), oQ 28 (.mov (.t 7)), oQ 29 (.idx 4 (.t 27) (.t 28)), oQ 30 (.load true 4 (.t 29)), oQ 31 (.call (.c (.fn (.func 48) [] [])) [(.t 26), (.t 30)]), oQ 8 (.mov (.t 31))])
 (.seq
 (.reg false [0, 1, 6, 7, 8, 9] [
 oQ 32 (.mov (.t 6)), oQ 33 (.mov (.t 1)), oQ 34 (.mov (.t 7)), oQ 35 (.idx 4 (.t 33) (.t 34)), oQ 36 (.load true 4 (.t 35)), oQ 37 (.call (.c (.fn (.func 48) [] [])) [(.t 32), (.t 36)]), oQ 9 (.mov (.t 37))])
 (.seq
 (.reg false [0, 1, 6, 7, 42] [
 oQ 38 (.mov (.t 6)), oQ 39 (.mov (.t 8)), oQ 40 (.mov (.t 9)), oQ 41 (.call (.c (.fn (.func 49) [] [])) [(.t 38), (.t 39), (.t 40)]), oQ 42 (.un .not (.t 41))])
 (.cond (.t 42)
 (.seq
 (.reg false [4, 5] [
 oQ 4 (.mov (.c (.sl .full []))), oQ 5 (.mov (.c (.int .i64 13)))])
 .ret)
 .skip)))))
 (.reg false [0, 1, 6, 7] [
 oQ 24 (.mov (.t 7)), oQ 25 (.bin .add (.t 24) (.c (.int .i64 1))), oQ 7 (.mov (.t 25))]))))))
 (.seq
 (.reg false [6, 10, 11] [
 oQ 44 (.mov (.t 6)), oQ 45 (.call (.c (.fn (.func 50) [] [])) [(.t 44)]), oQ 43 (.mov (.t 45)), oQ 46 (.ext 0 (.t 43)), oQ 47 (.ext 1 (.t 43)), oQ 10 (.mov (.t 46)), oQ 11 (.mov (.t 47))])
 (.seq
 (.seq
 (.reg false [6, 10, 49] [
 oQ 48 (.mov (.t 11)), oQ 49 (.un .not (.t 48))])
 (.cond (.t 49)
 (.seq
 (.reg false [4, 5] [
 oQ 4 (.mov (.c (.sl .full []))), oQ 5 (.mov (.c (.int .i64 13)))])
 .ret)
 .skip))
 (.seq
 (.reg false [6, 10, 12] [
 oQ 12 (.mov (.c (.sl .full [])))])
 (.seq
 (.seq
 (.reg false [6, 10, 12, 13] [
 oQ 13 (.mov (.c (.int .i64 0)))])
 (.block 2
 (.loop
 (.seq
 (.seq
 (.reg false [6, 10, 12, 13, 56] [
 oQ 50 (.mov (.t 13)), oQ 51 (.mov (.t 6)), oQ 52 (.nilck (.t 51)), oQ 53 (.fptr 0 (.t 52)), oQ 54 (.lod 1 false 1 (.t 53)), oQ 55 (.len false (.t 54)), oQ 56 (.bin .lss (.t 50) (.t 55))])
 (.cond (.t 56)
 .skip
 (.exit 2)))
 (.seq
 (.block 3
 (.seq
 (.reg false [6, 10, 12, 13, 14] [
 oQ 59 (.mov (.t 6)), oQ 60 (.nilck (.t 59)), oQ 61 (.fptr 1 (.t 60)), oQ 62 (.load false 1 (.t 61)), oQ 63 (.mov (.t 13)), oQ 64 (.idx 1 (.t 62) (.t 63)), oQ 65 (.load false 1 (.t 64)), oQ 14 (.mov (.t 65))])
 (.seq
 (.seq
 (.mult [6, 10, 12, 13, 14, 94] [
 (0, oQ 66 (.mov (.t 6))), (0, oQ 67 (.nilck (.t 66))), (0, oQ 68 (.fptr 0 (.t 67))), (0, oQ 69 (.load false 1 (.t 68))), (0, oQ 70 (.mov (.t 13))), (0, oQ 71 (.idx 4 (.t 69) (.t 70))), (0, oQ 72 (.fptr 0 (.t 71))), (0, oQ 73 (.load false 1 (.t 72))), (0, oQ 74 (.bin .neq (.t 73) (.c (.int .i64 1)))), (0, oQ 75 (.mov (.t 74))), (0, oG 76 75 false (.mov (.t 6))), (0, oG 77 75 false (.mov (.t 14))), (1, oG 78 75 false (.call (.c (.fn (.func 51) [] [])) [(.t 76), (.t 77)])), (0, oG 79 75 false (.bin .lss (.t 78) (.c (.int .i64 0)))), (0, oG 80 75 false (.mov (.t 79))), (0, oG 81 80 true (.mov (.t 6))), (0, oG 82 80 true (.mov (.t 14))), (0, oG 84 80 true (.mov (.t 6))), (0, oG 85 80 true (.nilck (.t 84))), (0, oG 86 80 true (.fptr 0 (.t 85))), (0, oG 87 80 true (.load false 1 (.t 86))), (0, oG 88 80 true (.mov (.t 13))), (0, oG 89 80 true (.idx 4 (.t 87) (.t 88))), (0, oG 90 80 true (.fptr 1 (.t 89))), (0, oG 91 80 true (.load false 1 (.t 90))), (2, oG 83 80 true (.call (.c (.fn (.func 52) [] [])) [(.t 81), (.t 82)])), (0, oG 92 80 true (.bin .eql (.t 83) (.t 91))), (0, oG 93 75 false (.pick (.t 80) (.t 92) (.c (.bool false)))), (0, oQ 94 (.pick (.t 75) (.c (.bool true)) (.t 93)))])
 (.cond (.t 94)
 (.exit 3)
 .skip))
 (.seq
 (.seq
 (.reg false [6, 10, 12, 13, 14, 108] [
 oQ 95 (.mov (.t 10)), oQ 96 (.mov (.t 14)), oQ 97 (.idx 2 (.t 95) (.t 96)), oQ 98 (.fptr 0 (.t 97)), oQ 99 (.load false 1 (.t 98)), oQ 100 (.bin .gtr (.t 99) (.c (.int .i64 200))), oQ 101 (.mov (.t 100)), oG 102 101 false (.mov (.t 10)), oG 103 101 false (.mov (.t 14)), oG 104 101 false (.idx 2 (.t 102) (.t 103)), oG 105 101 false (.fptr 1 (.t 104)), oG 106 101 false (.load false 1 (.t 105)), oG 107 101 false (.bin .gtr (.t 106) (.c (.int .i64 20))), oQ 108 (.pick (.t 101) (.c (.bool true)) (.t 107))])
 (.cond (.t 108)
 (.seq
 (.reg false [4, 5] [
 oQ 4 (.mov (.c (.sl .full []))), oQ 5 (.mov (.c (.int .i64 6)))])
 .ret)
 .skip))
 (.seq
 (.both [6, 10, 12, 13, 15] [
 (0, oQ 109 (.mov (.t 6))), (0, oQ 110 (.nilck (.t 109))), (0, oQ 111 (.fptr 0 (.t 110))), (0, oQ 112 (.load false 1 (.t 111))), (0, oQ 113 (.mov (.t 13))), (0, oQ 114 (.idx 4 (.t 112) (.t 113))), (0, oQ 115 (.fptr 1 (.t 114))), (0, oQ 116 (.load false 1 (.t 115))), (0, oQ 117 (.mov (.t 6))), (0, oQ 118 (.mov (.t 14)))] [
 (0, oQ 15 (.box (.c (.agg [(.int .i64 0), (.int .i64 0), (.int .i64 0), (.str ⟨⟨[]⟩⟩), (.sl .full [])])))), (2, oQ 119 (.call (.c (.fn (.func 53) [] [])) [(.t 117), (.t 118)])), (0, oQ 120 (.build [(.int .i64 0), (.int .i64 0), (.int .i64 0), (.str ⟨⟨[]⟩⟩), (.sl .full [])] [(0, 1, (.t 116)), (1, 4, (.t 119))])), (0, oN (.stn 1 5 (.t 15) (.t 120)))] [
 (2, oQ 119 (.call (.c (.fn (.func 53) [] [])) [(.t 117), (.t 118)])), (0, oQ 15 (.box (.c (.agg [(.int .i64 0), (.int .i64 0), (.int .i64 0), (.str ⟨⟨[]⟩⟩), (.sl .full [])])))), (0, oQ 120 (.build [(.int .i64 0), (.int .i64 0), (.int .i64 0), (.str ⟨⟨[]⟩⟩), (.sl .full [])] [(0, 1, (.t 116)), (1, 4, (.t 119))])), (0, oN (.stn 1 5 (.t 15) (.t 120)))])
 (.seq
 (.reg false [6, 10, 12, 13, 15, 16] [
 oQ 16 (.mov (.c (.sl .full [])))])
 (.seq
 (.reg false [6, 10, 12, 13, 15, 16, 17] [
 oQ 17 (.mov (.c (.int .i64 0)))])
 (.seq
 (.block 4
 (.loop
 (.seq
 (.seq
 (.reg true [6, 10, 12, 13, 15, 16, 17, 134] [
 oQ 121 (.take 17), oQ 122 (.take 12), oQ 123 (.len false (.t 122)), oQ 124 (.bin .lss (.t 121) (.t 123)), oQ 125 (.take 124), oG 126 125 true (.take 12), oG 127 125 true (.take 17), oG 128 125 true (.idx 5 (.t 126) (.t 127)), oG 129 125 true (.fptr 0 (.t 128)), oG 130 125 true (.load false 1 (.t 129)), oG 131 125 true (.fptr 0 (.t 15)), oG 132 125 true (.load false 1 (.t 131)), oG 133 125 true (.bin .lss (.t 130) (.t 132)), oQ 134 (.pick (.t 125) (.t 133) (.c (.bool false)))])
 (.cond (.t 134)
 .skip
 (.exit 4)))
 (.block 5
 (.reg false [6, 10, 12, 13, 15, 16, 17] [
 oQ 135 (.mov (.t 17)), oQ 136 (.bin .add (.t 135) (.c (.int .i64 1))), oQ 17 (.mov (.t 136))])))))
 (.seq
 (.reg false [6, 10, 12, 13, 15, 16, 17] [
 oQ 137 (.mov (.t 16)), oQ 138 (.mov (.t 12)), oQ 139 (.mov (.t 17)), oQ 140 (.slc 5 (.t 138) none (some (.t 139)) none), oQ 141 (.append 5 (.t 137) (.t 140)), oQ 16 (.mov (.t 141))])
 (.seq
 (.reg false [6, 10, 12, 13, 16, 17] [
 oQ 142 (.mov (.t 16)), oQ 143 (.load true 5 (.t 15)), oQ 144 (.bslice 5 [(.t 143)]), oQ 145 (.append 5 (.t 142) (.t 144)), oQ 16 (.mov (.t 145))])
 (.reg false [6, 10, 12, 13] [
 oQ 146 (.mov (.t 16)), oQ 147 (.mov (.t 12)), oQ 148 (.mov (.t 17)), oQ 149 (.slc 5 (.t 147) (some (.t 148)) none none), oQ 150 (.append 5 (.t 146) (.t 149)), oQ 12 (.mov (.t 150))])))))))))))
 (.reg false [6, 10, 12, 13] [
 oQ 57 (.mov (.t 13)), oQ 58 (.bin .add (.t 57) (.c (.int .i64 1))), oQ 13 (.mov (.t 58))]))))))
 (.seq
 (.reg false [4, 5] [
 oQ 151 (.mov (.t 12)), oQ 4 (.mov (.t 151)), oQ 5 (.mov (.c (.int .i64 0)))])
 .ret))))))))
theorem op_constraintref07_solve (hn : vals.length ≤ 152) (h : SP Try.prog true vals bs rc_constraintref07_solve [.slot 4, .slot 5] Q) : AM.Sem Try.prog 30 vals bs Q :=
 Sem.nrm (Sem.of (fn := Try.f30) (keeps := [(0, [0, 1]), (1, [0, 1, 6]), (2, [0, 1, 6, 7]), (3, [0, 1, 6, 7, 23]), (5, [0, 1, 6, 7, 8]), (6, [0, 1, 6, 7, 8, 9]), (7, [0, 1, 6, 7, 42]), (8, [4, 5]), (4, [0, 1, 6, 7]), (9, [6, 10, 11]), (10, [6, 10, 49]), (11, [4, 5]), (12, [6, 10, 12]), (13, [6, 10, 12, 13]), (14, [6, 10, 12, 13, 56]), (16, [6, 10, 12, 13, 14]), (17, [6, 10, 12, 13, 14, 94]), (18, [6, 10, 12, 13, 14, 108]), (19, [4, 5]), (20, [6, 10, 12, 13, 15]), (21, [6, 10, 12, 13, 15, 16]), (22, [6, 10, 12, 13, 15, 16, 17]), (23, [6, 10, 12, 13, 15, 16, 17, 134]), (24, [6, 10, 12, 13, 15, 16, 17]), (25, [6, 10, 12, 13, 15, 16, 17]), (26, [6, 10, 12, 13, 16, 17]), (27, [6, 10, 12, 13]), (15, [6, 10, 12, 13]), (28, [4, 5]), (1000000, [8054, 9015]), (2000017, [0, 1, 2, 3, 4, 5, 6, 7, 8, 9, 10, 11, 12, 13, 14, 15, 16, 18, 19, 20, 21, 22, 23, 24, 25, 17, 26, 27, 28]), (3000017, [0, 0, 0, 0, 0, 0, 0, 0, 0, 0, 0, 0, 1, 0, 0, 0, 0, 2, 0, 0, 0, 0, 0, 0, 0, 0, 0, 0, 0]), (4000020, [12, 10, 0, 1, 2, 3, 4, 5, 6, 7, 8, 9]), (5000020, [10, 11, 13]), (6000020, [12, 11, 13]), (3000020, [0, 0, 0, 0, 0, 0, 0, 0, 0, 0, 2, 0, 0, 0])]) (solo := []) Try.func30 rfl (by kernel_rfl) (by kernel_rfl) (by kernel_rfl) hn (run_gp h))
def rc_constraintref07_All : RC :=
 (.seq
 (.reg false [0, 1] [
 oQ 4 (.mov (.c (.sl .full []))), oQ 5 (.mov (.c (.int .i64 0)))])
 (.seq
 (.seq
 (.reg false [0, 1, 6] [
 oQ 6 (.mov (.c (.int .i64 0)))])
 (.block 0
 (.loop
 (.seq
 (.seq
 (.reg false [0, 1, 6, 11] [
 oQ 8 (.mov (.t 6)), oQ 9 (.mov (.t 0)), oQ 10 (.len false (.t 9)), oQ 11 (.bin .lss (.t 8) (.t 10))])
 (.cond (.t 11)
 .skip
 (.exit 0)))
 (.seq
 (.block 1
 (.seq
 (.reg false [0, 1, 6, 19] [
 oQ 14 (.mov (.t 0)), oQ 15 (.mov (.t 6)), oQ 16 (.idx 4 (.t 14) (.t 15)), oQ 17 (.load true 4 (.t 16)), oQ 18 (.call (.c (.fn (.func 21) [] [])) [(.t 17)]), oQ 19 (.un .not (.t 18))])
 (.cond (.t 19)
 (.seq
 (.reg false [4, 5] [
 oQ 4 (.mov (.c (.sl .full []))), oQ 5 (.mov (.c (.int .i64 2)))])
 .ret)
 .skip)))
 (.reg false [0, 1, 6] [
 oQ 12 (.mov (.t 6)), oQ 13 (.bin .add (.t 12) (.c (.int .i64 1))), oQ 6 (.mov (.t 13))]))))))
 (.seq
 (.seq
 (.reg false [0, 1, 7] [
 oQ 7 (.mov (.c (.int .i64 0)))])
 (.block 2
 (.loop
 (.seq
 (.seq
 (.reg false [0, 1, 7, 23] [
 oQ 20 (.mov (.t 7)), oQ 21 (.mov (.t 1)), oQ 22 (.len false (.t 21)), oQ 23 (.bin .lss (.t 20) (.t 22))])
 (.cond (.t 23)
 .skip
 (.exit 2)))
 (.seq
 (.block 3
 (.seq
 (.reg false [0, 1, 7, 31] [
 oQ 26 (.mov (.t 1)), oQ 27 (.mov (.t 7)), oQ 28 (.idx 4 (.t 26) (.t 27)), oQ 29 (.load true 4 (.t 28)), oQ 30 (.call (.c (.fn (.func 21) [] [])) [(.t 29)]), oQ 31 (.un .not (.t 30))])
 (.cond (.t 31)
 (.seq
 (.reg false [4, 5] [
 oQ 4 (.mov (.c (.sl .full []))), oQ 5 (.mov (.c (.int .i64 2)))])
 .ret)
 .skip)))
 (.reg false [0, 1, 7] [
 oQ 24 (.mov (.t 7)), oQ 25 (.bin .add (.t 24) (.c (.int .i64 1))), oQ 7 (.mov (.t 25))]))))))
 (.seq
 (.seq
 (.reg false [0, 1, 36] [
 oQ 32 (.mov (.t 0)), oQ 33 (.len false (.t 32)), oQ 34 (.mov (.t 1)), oQ 35 (.len false (.t 34)), oQ 36 (.bin .neq (.t 33) (.t 35))])
 (.cond (.t 36)
 (.seq
 (.reg false [4, 5] [
 oQ 4 (.mov (.c (.sl .full []))), oQ 5 (.mov (.c (.int .i64 9)))])
 .ret)
 .skip))
 (.seq
 (.reg false [4, 5] [
 oQ 37 (.mov (.t 0)), oQ 38 (.mov (.t 1)), oQ 39 (.call (.c (.fn (.func 30) [] [])) [(.t 37), (.t 38)]), oQ 40 (.ext 0 (.t 39)), oQ 41 (.ext 1 (.t 39)), oQ 4 (.mov (.t 40)), oQ 5 (.mov (.t 41))])
 .ret)))))
theorem op_constraintref07_All (hn : vals.length ≤ 42) (h : SP Try.prog true vals bs rc_constraintref07_All [.slot 4, .slot 5] Q) : AM.Sem Try.prog 17 vals bs Q :=
 Sem.nrm (Sem.of (fn := Try.f17) (keeps := [(0, [0, 1]), (1, [0, 1, 6]), (2, [0, 1, 6, 11]), (4, [0, 1, 6, 19]), (5, [4, 5]), (3, [0, 1, 6]), (6, [0, 1, 7]), (7, [0, 1, 7, 23]), (9, [0, 1, 7, 31]), (10, [4, 5]), (8, [0, 1, 7]), (11, [0, 1, 36]), (12, [4, 5]), (13, [4, 5])]) (solo := []) Try.func17 rfl (by kernel_rfl) (by kernel_rfl) (by kernel_rfl) hn (run_gp h))
def rc_constraintlaw07_UnifyLists : RC :=
 (.seq
 (.reg false [0, 1] [
 oQ 4 (.mov (.c (.bool false)))])
 (.seq
 (.seq
 (.reg false [0, 1, 16] [
 oQ 9 (.mov (.t 0)), oQ 10 (.call (.c (.fn (.func 15) [] [])) [(.t 9)]), oQ 11 (.un .not (.t 10)), oQ 12 (.mov (.t 11)), oG 13 12 false (.mov (.t 1)), oG 14 12 false (.call (.c (.fn (.func 15) [] [])) [(.t 13)]), oG 15 12 false (.un .not (.t 14)), oQ 16 (.pick (.t 12) (.c (.bool true)) (.t 15))])
 (.cond (.t 16)
 (.seq
 (.reg false [4] [
 oQ 17 (.call (.c (.fn (.func 9) [] [])) []), oQ 4 (.mov (.t 17))])
 .ret)
 .skip))
 (.seq
 (.reg false [0, 1, 5, 6] [
 oQ 19 (.mov (.t 0)), oQ 20 (.mov (.t 1)), oQ 21 (.call (.c (.fn (.func 16) [] [])) [(.t 19), (.t 20)]), oQ 18 (.mov (.t 21)), oQ 22 (.ext 0 (.t 18)), oQ 23 (.ext 1 (.t 18)), oQ 5 (.mov (.t 22)), oQ 6 (.mov (.t 23))])
 (.seq
 (.reg false [5, 6, 7, 8] [
 oQ 25 (.mov (.t 0)), oQ 26 (.mov (.t 1)), oQ 27 (.call (.c (.fn (.func 17) [] [])) [(.t 25), (.t 26)]), oQ 24 (.mov (.t 27)), oQ 28 (.ext 0 (.t 24)), oQ 29 (.ext 1 (.t 24)), oQ 7 (.mov (.t 28)), oQ 8 (.mov (.t 29))])
 (.seq
 (.reg false [4] [
 oQ 30 (.mov (.t 5)), oQ 31 (.mov (.t 7)), oQ 32 (.call (.c (.fn (.func 12) [] [])) [(.t 30), (.t 31)]), oQ 33 (.mov (.t 32)), oG 34 33 true (.mov (.t 6)), oG 35 33 true (.mov (.t 8)), oG 36 33 true (.bin .eql (.t 34) (.t 35)), oQ 37 (.pick (.t 33) (.t 36) (.c (.bool false))), oQ 38 (.mov (.t 37)), oG 39 38 true (.call (.c (.fn (.func 9) [] [])) []), oQ 40 (.pick (.t 38) (.t 39) (.c (.bool false))), oQ 4 (.mov (.t 40))])
 .ret)))))
theorem op_constraintlaw07_UnifyLists (hn : vals.length ≤ 41) (h : SP Try.prog true vals bs rc_constraintlaw07_UnifyLists [.slot 4] Q) : AM.Sem Try.prog 4 vals bs Q :=
 Sem.nrm (Sem.of (fn := Try.f4) (keeps := [(0, [0, 1]), (1, [0, 1, 16]), (2, [4]), (3, [0, 1, 5, 6]), (4, [5, 6, 7, 8]), (5, [4])]) (solo := []) Try.func4 rfl (by kernel_rfl) (by kernel_rfl) (by kernel_rfl) hn (run_gp h))
end Go.CK
