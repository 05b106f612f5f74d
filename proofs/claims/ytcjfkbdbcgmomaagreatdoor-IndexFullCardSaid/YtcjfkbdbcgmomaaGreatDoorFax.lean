/-
  Texts of this claim joined (wip/gen/bundle.py), those declarations only that are needed: RcIxc IxSt IxN IxX. By an AI agent.
-/
import Derived.Test.YtcjfkbdbcgmomaaGreatDoorProg
import Derived.Test.YtcjfkbdbcgmomaaGreatDoorFap
import Derived.Test.YtcjfkbdbcgmomaaGreatDoorFav
import Derived.Test.YtcjfkbdbcgmomaaGreatDoorFaw
set_option linter.unusedSimpArgs false
set_option linter.unusedVariables false
namespace Go.CK
open Go.AM Go.Proofs
variable {vals : List AV} {bs : List Box} {Q : AV -> List Box -> Prop}
def rc_constraintlaw20_e : RC :=
 (.seq
 (.reg false [0, 1, 2, 6] [
 oQ 6 (.box (.c (.agg [(.int .i64 0), (.str ⟨⟨[]⟩⟩), (.sl .full [])])))])
 (.seq
 (.reg false [6] [
 qM 7 0, qM 8 1, oQ 9 (.call (.c (.fn (.func 39) [] [])) [(.t 8), (.c (.sl .full []))]), qM 10 2, oQ 11 (.call (.c (.fn (.func 39) [] [])) [(.t 10), (.c (.sl .full []))]), oQ 12 (.bslice 4 [(.t 9), (.t 11)]), oQ 13 (.build [(.str ⟨⟨[]⟩⟩), (.sl .full [])] [(0, 1, (.c (.str ⟨⟨[101]⟩⟩))), (1, 1, (.t 12))]), oQ 14 (.build [(.int .i64 0), (.str ⟨⟨[]⟩⟩), (.sl .full [])] [(0, 1, (.t 7)), (1, 2, (.t 13))]), oN (.store 3 (.t 6) (.t 14))])
 .ret))
theorem op_constraintlaw20_e (hn : vals.length ≤ 15) (h : SP Tryz.prog true vals bs rc_constraintlaw20_e [.cell 6 true 3] Q) : AM.Sem Tryz.prog 35 vals bs Q :=
 Sem.nrm (Sem.of (fn := Tryz.f35) (keeps := [(0, [0, 1, 2, 6]), (1, [6])]) (solo := []) Tryz.func35 rfl (by kernel_rfl) (by kernel_rfl) (by kernel_rfl) hn (run_gp h))
def rc_constraintlaw20_exampleHolds : RC :=
 (.seq
 (.reg false [] [
 oQ 0 (.mov (.c (.bool false)))])
 (.seq
 (.reg false [1, 2] [
 oQ 6 (.call (.c (.fn (.func 35) [] [])) [(.c (.int .i64 1)), (.c (.str ⟨⟨[97]⟩⟩)), (.c (.str ⟨⟨[98]⟩⟩))]), oQ 7 (.call (.c (.fn (.func 35) [] [])) [(.c (.int .i64 2)), (.c (.str ⟨⟨[97]⟩⟩)), (.c (.str ⟨⟨[99]⟩⟩))]), oQ 8 (.call (.c (.fn (.func 35) [] [])) [(.c (.int .i64 4)), (.c (.str ⟨⟨[98]⟩⟩)), (.c (.str ⟨⟨[98]⟩⟩))]), oQ 9 (.bslice 3 [(.t 6), (.t 7), (.t 8)]), oQ 10 (.bslice 1 [(.c (.int .i64 0))]), oQ 11 (.build [(.str ⟨⟨[]⟩⟩), (.int .i64 0), (.sl .full [])] [(0, 1, (.c (.str ⟨⟨[101]⟩⟩))), (1, 1, (.c (.int .i64 2))), (2, 1, (.t 10))]), oQ 12 (.build [(.str ⟨⟨[]⟩⟩), (.int .i64 0), (.sl .full [])] [(0, 1, (.c (.str ⟨⟨[101]⟩⟩))), (1, 1, (.c (.int .i64 2)))]), oQ 13 (.bslice 3 [(.t 11), (.t 12)]), oQ 14 (.call (.c (.fn (.func 11) [] [])) [(.t 9), (.t 13)]), qM 5 14, oQ 15 (.ext 0 (.t 5)), oQ 16 (.ext 1 (.t 5)), qM 1 15, qM 2 16])
 (.seq
 (.seq
 (.reg false [1, 38] [
 qM 17 1, oQ 18 (.more (.eqP false) [(.t 17), (.c .nptr)]), qM 19 18, oG 20 19 false (.mov (.t 2)), oG 21 19 false (.bin .neq (.t 20) (.c (.int .i64 0))), oQ 22 (.pick (.t 19) (.c (.bool true)) (.t 21)), qM 23 22, oG 24 23 false (.mov (.t 1)), oG 25 23 false (.call (.c (.fn (.func 39) [] [])) [(.c (.str ⟨⟨[97]⟩⟩)), (.c (.sl .full []))]), oG 26 23 false (.bslice 4 [(.t 25)]), oG 27 23 false (.call (.c (.fn (.func 13) [] [])) [(.t 24), (.c (.int .i64 0)), (.t 26)]), oG 28 23 false (.bslice 1 [(.c (.int .i64 1)), (.c (.int .i64 2))]), oG 29 23 false (.call (.c (.fn (.func 17) [] [])) [(.t 27), (.t 28)]), oG 30 23 false (.un .not (.t 29)), oQ 31 (.pick (.t 23) (.c (.bool true)) (.t 30)), qM 32 31, oG 33 32 false (.mov (.t 1)), oG 34 32 false (.call (.c (.fn (.func 13) [] [])) [(.t 33), (.c (.int .i64 1)), (.c (.sl .full []))]), oG 35 32 false (.bslice 1 [(.c (.int .i64 1)), (.c (.int .i64 2)), (.c (.int .i64 4))]), oG 36 32 false (.call (.c (.fn (.func 17) [] [])) [(.t 34), (.t 35)]), oG 37 32 false (.un .not (.t 36)), oQ 38 (.pick (.t 32) (.c (.bool true)) (.t 37))])
 (.cond (.t 38)
 (.seq
 (.reg false [0] [
 oQ 0 (.mov (.c (.bool false)))])
 .ret)
 .skip))
 (.seq
 (.reg false [1, 4] [
 oQ 40 (.bslice 1 [(.c (.int .i64 2))]), oQ 41 (.build [(.str ⟨⟨[]⟩⟩), (.int .i64 0), (.sl .full [])] [(0, 1, (.c (.str ⟨⟨[101]⟩⟩))), (1, 1, (.c (.int .i64 2))), (2, 1, (.t 40))]), oQ 42 (.bslice 3 [(.t 41)]), oQ 43 (.call (.c (.fn (.func 11) [] [])) [(.c (.sl .full [])), (.t 42)]), qM 39 43, oQ 44 (.ext 0 (.t 39)), oQ 45 (.ext 1 (.t 39)), qM 3 44, qM 4 45])
 (.seq
 (.reg false [0] [
 qM 46 1, oQ 47 (.call (.c (.fn (.func 35) [] [])) [(.c (.int .i64 3)), (.c (.str ⟨⟨[97]⟩⟩)), (.c (.str ⟨⟨[97]⟩⟩))]), oQ 48 (.call (.c (.fn (.func 14) [] [])) [(.t 46), (.t 47)]), oQ 49 (.bin .eql (.t 48) (.c (.int .i64 0))), qM 50 49, oG 51 50 true (.mov (.t 1)), oG 52 50 true (.call (.c (.fn (.func 35) [] [])) [(.c (.int .i64 3)), (.c (.str ⟨⟨[98]⟩⟩)), (.c (.str ⟨⟨[97]⟩⟩))]), oG 53 50 true (.call (.c (.fn (.func 14) [] [])) [(.t 51), (.t 52)]), oG 54 50 true (.bin .eql (.t 53) (.c (.int .i64 8))), oQ 55 (.pick (.t 50) (.t 54) (.c (.bool false))), qM 56 55, oG 57 56 true (.mov (.t 1)), oG 58 56 true (.call (.c (.fn (.func 39) [] [])) [(.c (.str ⟨⟨[97]⟩⟩)), (.c (.sl .full []))]), oG 59 56 true (.bslice 4 [(.t 58)]), oG 60 56 true (.call (.c (.fn (.func 13) [] [])) [(.t 57), (.c (.int .i64 0)), (.t 59)]), oG 61 56 true (.bslice 1 [(.c (.int .i64 1)), (.c (.int .i64 2)), (.c (.int .i64 3))]), oG 62 56 true (.call (.c (.fn (.func 17) [] [])) [(.t 60), (.t 61)]), oQ 63 (.pick (.t 56) (.t 62) (.c (.bool false))), qM 64 63, oG 65 64 true (.mov (.t 1)), oG 66 64 true (.call (.c (.fn (.func 16) [] [])) [(.t 65), (.c (.int .i64 1))]), oQ 67 (.pick (.t 64) (.t 66) (.c (.bool false))), qM 68 67, oG 69 68 true (.mov (.t 1)), oG 70 68 true (.call (.c (.fn (.func 16) [] [])) [(.t 69), (.c (.int .i64 1))]), oG 71 68 true (.un .not (.t 70)), oQ 72 (.pick (.t 68) (.t 71) (.c (.bool false))), qM 73 72, oG 74 73 true (.mov (.t 1)), oG 75 73 true (.call (.c (.fn (.func 12) [] [])) [(.t 74)]), oG 76 73 true (.len false (.t 75)), oG 77 73 true (.bin .eql (.t 76) (.c (.int .i64 3))), oQ 78 (.pick (.t 73) (.t 77) (.c (.bool false))), qM 79 78, oG 80 79 true (.mov (.t 4)), oG 81 79 true (.bin .eql (.t 80) (.c (.int .i64 2))), oQ 82 (.pick (.t 79) (.t 81) (.c (.bool false))), qM 0 82])
 .ret)))))
def rc_constraintlaw20_IndexFull : RC :=
 (.seq
 (.reg false [0] [
 oQ 2 (.mov (.c (.bool false)))])
 (.seq
 (.reg false [0, 3] [
 oQ 6 (.build [(.sl .full []), (.sl .full []), (.sl .full [])] []), oQ 7 (.box (.t 6)), qM 3 7])
 (.seq
 (.seq
 (.reg false [0, 3, 4] [
 oQ 4 (.mov (.c (.int .i64 0)))])
 (.block 0
 (.loop
 (.seq
 (.seq
 (.reg false [0, 3, 4, 9] [
 qM 8 4, oQ 9 (.bin .lss (.t 8) (.c (.int .i64 500)))])
 (.cond (.t 9)
 .skip
 (.exit 0)))
 (.seq
 (.block 1
 (.seq
 (.reg false [0, 3, 4, 21] [
 qM 12 3, qM 13 0, oQ 14 (.conv (some .i64) (.t 13)), oQ 15 (.bin .add (.t 14) (.c (.int .i64 1))), qM 16 4, oQ 17 (.bin .mul (.c (.int .i64 2)) (.t 16)), oQ 18 (.bin .add (.t 15) (.t 17)), oQ 19 (.call (.c (.fn (.func 35) [] [])) [(.t 18), (.c (.str ⟨⟨[97]⟩⟩)), (.c (.str ⟨⟨[98]⟩⟩))]), oQ 20 (.call (.c (.fn (.func 14) [] [])) [(.t 12), (.t 19)]), oQ 21 (.bin .neq (.t 20) (.c (.int .i64 0)))])
 (.cond (.t 21)
 (.seq
 (.reg false [2] [
 oQ 2 (.mov (.c (.bool false)))])
 .ret)
 .skip)))
 (.reg false [0, 3, 4] [
 qM 10 4, oQ 11 (.bin .add (.t 10) (.c (.int .i64 1))), qM 4 11]))))))
 (.seq
 (.seq
 (.reg false [49] [
 qM 22 3, qM 23 0, oQ 24 (.conv (some .i64) (.t 23)), oQ 25 (.bin .add (.t 24) (.c (.int .i64 2))), oQ 26 (.call (.c (.fn (.func 35) [] [])) [(.t 25), (.c (.str ⟨⟨[97]⟩⟩)), (.c (.str ⟨⟨[98]⟩⟩))]), oQ 27 (.call (.c (.fn (.func 14) [] [])) [(.t 22), (.t 26)]), oQ 28 (.bin .neq (.t 27) (.c (.int .i64 6))), qM 29 28, oG 30 29 false (.mov (.t 3)), oG 31 29 false (.mov (.t 0)), oG 32 29 false (.conv (some .i64) (.t 31)), oG 33 29 false (.bin .add (.t 32) (.c (.int .i64 1))), oG 34 29 false (.call (.c (.fn (.func 35) [] [])) [(.t 33), (.c (.str ⟨⟨[97]⟩⟩)), (.c (.str ⟨⟨[98]⟩⟩))]), oG 35 29 false (.call (.c (.fn (.func 14) [] [])) [(.t 30), (.t 34)]), oG 36 29 false (.bin .neq (.t 35) (.c (.int .i64 8))), oQ 37 (.pick (.t 29) (.c (.bool true)) (.t 36)), qM 38 37, oG 39 38 false (.mov (.t 3)), oG 40 38 false (.call (.c (.fn (.func 12) [] [])) [(.t 39)]), oG 41 38 false (.len false (.t 40)), oG 42 38 false (.bin .neq (.t 41) (.c (.int .i64 500))), oQ 43 (.pick (.t 38) (.c (.bool true)) (.t 42)), qM 44 43, oG 45 44 false (.mov (.t 3)), oG 46 44 false (.call (.c (.fn (.func 13) [] [])) [(.t 45), (.c (.int .i64 0)), (.c (.sl .full []))]), oG 47 44 false (.len false (.t 46)), oG 48 44 false (.bin .neq (.t 47) (.c (.int .i64 0))), oQ 49 (.pick (.t 44) (.c (.bool true)) (.t 48))])
 (.cond (.t 49)
 (.seq
 (.reg false [2] [
 oQ 2 (.mov (.c (.bool false)))])
 .ret)
 .skip))
 (.seq
 (.reg false [5] [
 oQ 5 (.mov (.c .nptr))])
 (.seq
 (.reg false [5] [
 qM 50 5, oQ 51 (.call (.c (.fn (.func 36) [] [])) [(.t 50), (.c (.sl .full []))])])
 (.seq
 (.reg false [2] [
 qM 52 5, oQ 53 (.call (.c (.fn (.func 35) [] [])) [(.c (.int .i64 1)), (.c (.str ⟨⟨[97]⟩⟩)), (.c (.str ⟨⟨[98]⟩⟩))]), oQ 54 (.call (.c (.fn (.func 14) [] [])) [(.t 52), (.t 53)]), oQ 55 (.bin .eql (.t 54) (.c (.int .i64 1))), qM 56 55, oG 57 56 true (.mov (.t 5)), oG 58 56 true (.call (.c (.fn (.func 16) [] [])) [(.t 57), (.c (.int .i64 1))]), oG 59 56 true (.un .not (.t 58)), oQ 60 (.pick (.t 56) (.t 59) (.c (.bool false))), qM 61 60, oG 62 61 true (.mov (.t 5)), oG 63 61 true (.call (.c (.fn (.func 13) [] [])) [(.t 62), (.c (.int .i64 0)), (.c (.sl .full []))]), oG 64 61 true (.len false (.t 63)), oG 65 61 true (.bin .eql (.t 64) (.c (.int .i64 0))), oQ 66 (.pick (.t 61) (.t 65) (.c (.bool false))), qM 67 66, oG 68 67 true (.mov (.t 5)), oG 69 67 true (.call (.c (.fn (.func 12) [] [])) [(.t 68)]), oG 70 67 true (.len false (.t 69)), oG 71 67 true (.bin .eql (.t 70) (.c (.int .i64 0))), oQ 72 (.pick (.t 67) (.t 71) (.c (.bool false))), qM 73 72, oG 74 73 true (.call (.c (.fn (.func 10) [] [])) []), oQ 75 (.pick (.t 73) (.t 74) (.c (.bool false))), qM 2 75])
 .ret)))))))
theorem opS_constraintlaw20_exampleHolds (hn : vals.length ≤ 83) (h : SP Tryz.prog false vals bs rc_constraintlaw20_exampleHolds [.slot 0] Q) : AM.Sem Tryz.prog 10 vals bs Q :=
 Sem.nrm (Sem.of (fn := Tryz.f10) (keeps := [(0, []), (1, [1, 2]), (2, [1, 38]), (3, [0]), (4, [1, 4]), (5, [0])]) (solo := []) Tryz.func10 rfl (by kernel_rfl) (by kernel_rfl) (by kernel_rfl) hn (run_gp h))
theorem opS_constraintlaw20_IndexFull (hn : vals.length ≤ 76) (h : SP Tryz.prog false vals bs rc_constraintlaw20_IndexFull [.slot 2] Q) : AM.Sem Tryz.prog 8 vals bs Q :=
 Sem.nrm (Sem.of (fn := Tryz.f8) (keeps := [(0, [0]), (1, [0, 3]), (2, [0, 3, 4]), (3, [0, 3, 4, 9]), (5, [0, 3, 4, 21]), (6, [2]), (4, [0, 3, 4]), (7, [49]), (8, [2]), (9, [5]), (10, [5]), (11, [2])]) (solo := []) Tryz.func8 rfl (by kernel_rfl) (by kernel_rfl) (by kernel_rfl) hn (run_gp h))
end Go.CK
namespace Go.CK
open Go.AM Go.Proofs
def stB : Int -> List It -> Bool
 | _, [] => true
 | last, i :: l => decide (last < i.id) && (i.atom.right && stB i.id l)
def rightSt (l : List It) : Bool := decide (l.length ≤ 500) && stB 0 l
def lastI (l : List It) (j : Nat) : Int := match j with
 | 0 => 0
 | j + 1 => match l[j]? with
  | some i => i.id
  | none => 0
set_option maxRecDepth 100000 in
theorem stRight_ok {l : List It} (hl : l.length ≤ 10000000) (ha : ∀ i ∈ l, i.atom.args.length ≤ 10000000) : Fun Tryz.prog 40 [slA It.av l] (.bool (rightSt l)) := by
 unfold rightSt
 by_cases h5 : l.length ≤ 500
 ·rw [decide_eq_true h5, Bool.true_and]; refine Fun.of (op_store_Right (by simp) ?_) rfl rfl
  conv => whnf
  conv => whnf
  repeat' ((first | (refine gC ?_; (refine gD ?_; refine cJ ?_)) | (refine gL ?_; refine .map ?_)) <;> conv => whnf)
  refine LoopP.count (fb := true) (l.length) (fun st_ j => st_.sets [(3, .int .i64 (lastI l j)), (11, .int .i64 j)]) (fun j => stB 0 l = stB (lastI l j) (l.drop j)) ?_ ?_ (fun j hj hij => ?_) (fun hij => ?_)
  ·rfl
  ·refine EndN.at_ ?_ rfl
   conv => whnf
   refine And.intro ?_ ?_ <;> conv => whnf
   all_goals repeat' ((first | (refine gV ?_; first | refine vE ?_ | refine vI ?_ | (refine WkN.norm ?_ ?_; (focus (simp [AV.norm, AV.norm1, lastI]; done)))) | exact True.intro) <;> conv => whnf)
  ·obtain ⟨y, hy⟩ : ∃ y, l[j]? = some y := ⟨_, List.getElem?_eq_getElem hj⟩; rw [List.drop_eq_getElem_cons hj, (List.getElem?_eq_some_iff.1 hy).2, stB] at hij; have hla : lastI l (j + 1) = y.id := by simp [lastI, hy]
   have hr := RightAtom_ok y.atom (by have := ha y (List.mem_of_getElem? hy); omega)
   generalize lastI l j = la at *
   by_cases h1 : la < y.id
   ·rw [decide_eq_true h1, Bool.true_and] at hij
    cases hb : y.atom.right with
    | true =>
     rw [hb] at hr; rw [hb, Bool.true_and] at hij
     conv => whnf
     repeat' ((first | (refine gF ?_; refine CallN.fn (hr) ?_) | (refine gC ?_; first | refine cY ?_ | refine .not ?_ | (refine gD ?_; first | refine cI ?_ | refine cJ ?_)) | (refine gW ?_; refine wI ?_) | (refine gI ?_; (refine gM ?_; refine iE ?_))) <;> conv => whnf)
     refine ⟨by rw [hla]; exact hij, ?_⟩
     refine EndN.atC 0 ?_ rfl rfl rfl rfl (by first | rfl | (repeat' (first | rfl | refine bLtRow (row_allI _ _ _) ?_ | refine bLtRow (row_allB _ _ _) ?_ | refine bLtMp ?_ | refine bLtDead ?_ | refine bLtCells rfl ?_)))
     conv => whnf
     refine And.intro ?_ ?_ <;> conv => whnf
     all_goals repeat' ((first | (refine gV ?_; first | refine vE ?_ | refine vI ?_) | exact True.intro) <;> conv => whnf)
    | false =>
     rw [hb] at hr; rw [hb, Bool.false_and] at hij; rw [hij]
     conv => whnf
     repeat' ((first | (refine gF ?_; refine CallN.fn (hr) ?_) | (refine gC ?_; first | refine cN ?_ | refine .not ?_ | (refine gD ?_; first | refine cI ?_ | refine cJ ?_)) | (refine gI ?_; (refine gM ?_; refine iE ?_)) | refine RetP.nrm ?_) <;> conv => whnf)
     all_goals rfl
   ·rw [decide_eq_false h1, Bool.false_and] at hij; rw [hij]
    conv => whnf
    repeat' ((first | (refine gC ?_; first | refine cY ?_ | (refine gD ?_; refine cI ?_)) | (refine gI ?_; (refine gM ?_; refine iE ?_)) | refine RetP.nrm ?_) <;> conv => whnf)
    all_goals rfl
  ·rw [List.drop_length, stB] at hij; rw [hij]
   conv => whnf
   repeat' ((first | (refine gC ?_; (refine gD ?_; refine cJ ?_)) | refine RetP.nrm ?_) <;> conv => whnf)
   all_goals rfl
 ·rw [decide_eq_false h5]; refine Fun.of (op_store_Right (by simp) ?_) rfl rfl
  conv => whnf
  conv => whnf
  repeat' ((first | (refine gC ?_; (refine gD ?_; refine cI ?_)) | (refine gL ?_; refine .map ?_) | refine RetP.nrm ?_) <;> conv => whnf)
  all_goals rfl
end Go.CK
namespace Go.CK
open Go.AM Go.Proofs
def IxAt (V : Nat -> Prop) (bs : List Box) (p : Nat) (acc : List Ac) (its : List It) : Prop :=
 ∃ bi ki t kt cs, IdxG bs p acc its (fun _ => its) bi ki t kt cs ∧ ¬ V bi ∧ ¬ V t ∧ (∀ c ∈ cs, ¬ V c) ∧ t ≠ bi
set_option maxRecDepth 100000 in
set_option maxHeartbeats 2000000 in
theorem newIx_ok {V : Nat -> Prop} {bs : List Box} {l : List Ac} {its : List It} (hV : ∀ b, V b -> b ≤ bs.length) (ha : AllOk l its) (hr : ∀ a ∈ l, a.right = true) (hs : rightSt its = true) (har : ∀ i ∈ its, i.atom.args.length ≤ 10000000) :
  AM.Sem Tryz.prog 11 [slA It.av its, slA Ac.av l] bs fun r bs' => r = .tup [.ptr bs.length 0, .int .i64 0] ∧ IxAt V bs' bs.length l its ∧ Pre bs bs' := by
 have hl := ha.accs; have hp := ha.poss; have hfew := ha.few; have hcn := containsNew_ok (l := l) (by omega) fun a ha => by have := hp a ha; omega
 rw [show (l.any fun x => !x.right) = false from List.any_eq_false.2 fun x hx => by simp [hr x hx]] at hcn
 have hsr := stRight_ok (l := its) (by omega) har
 rw [hs] at hsr; refine opS_index_New (by simp) ?_
 conv => whnf
 try dsimp only
 repeat' ((first | (refine gF ?_; first | refine CallN.fn (hsr) ?_ | refine CallN.fn (hcn) ?_) | (refine gC ?_; first | refine cY ?_ | refine cN ?_ | refine .not ?_) | (refine gL ?_; refine .map ?_)) <;> (conv => whnf; try dsimp only))
 refine LoopP.by (fb := false) (fun st_ (a : Nat × List Box) => ⟨[(0, slA It.av its), (6, .ptr bs.length 0), (20, slA Ac.av l), (21, .int .i64 l.length), (22, .int .i64 (a.1 : Int))], a.2, bs.length⟩)
  (fun a => a.1 ≤ l.length ∧ ∃ ra ka bi t k cs, cs.length = a.1 ∧ a.2[bs.length]? = some (.cells [.bsl ra a.1 ka, .bsl bi 0 0, .bsl t cs.length k]) ∧ TabsAt a.2 t k cs ∧ Pre bs a.2 ∧ bs.length < ra ∧ ra ≠ t ∧ a.2[ra]? = some (rowF Ac.av 3 ka (l.take a.1)) ∧ a.1 ≤ ka ∧ bs.length < t ∧ (∀ c ∈ cs, bs.length < c) ∧ cs.Nodup ∧ bs.length < bi ∧ bi ≠ ra ∧ bi ≠ t ∧ a.2[bi]? = some (.row []))
  (fun a => l.length - a.1) (0, bs ++ [.cells [.bsl (bs.length + 1) 0 0, .bsl (bs.length + 2) 0 0, .bsl (bs.length + 3) 0 0], .row [], .row [], .row []]) ⟨Nat.zero_le _, bs.length + 1, 0, bs.length + 2, bs.length + 3, 0, [], rfl, by simp, ⟨by simp [rowF, cellsOf], Nat.le_refl _, Nat.zero_le _, fun c hc => by cases hc⟩, ⟨by simp, fun b hb => by rw [List.getElem?_append_left hb]⟩, by omega, by omega, by simp [rowF, cellsOf], Nat.le_refl _, by omega, (fun c hc => by cases hc), List.nodup_nil, by omega, by omega, by omega, by simp⟩ ?_ ?_
 ·refine EndN.rowNilAt (p := bs.length) (j := 0) (cs := [.sl .full [], .sl .full [], .sl .full []]) (by simp) rfl ?_
  rw [List.set_append_right _ _ (Nat.le_refl _), Nat.sub_self]; simp only [List.length_append, List.length_cons, List.length_nil, List.set_cons_zero, List.set_cons_succ, List.append_assoc, List.cons_append, List.nil_append]; refine EndN.rowNilAt (p := bs.length) (j := 1) (cs := [.bsl (bs.length + 1) 0 0, .sl .full [], .sl .full []]) (by simp) rfl ?_
  rw [List.set_append_right _ _ (Nat.le_refl _), Nat.sub_self]; simp only [List.length_append, List.length_cons, List.length_nil, List.set_cons_zero, List.set_cons_succ, List.append_assoc, List.cons_append, List.nil_append]; refine EndN.rowNilAt (p := bs.length) (j := 2) (cs := [.bsl (bs.length + 1) 0 0, .bsl (bs.length + 2) 0 0, .sl .full []]) (by simp) rfl ?_
  rw [List.set_append_right _ _ (Nat.le_refl _), Nat.sub_self]; simp only [List.length_append, List.length_cons, List.length_nil, List.set_cons_zero, List.set_cons_succ, List.append_assoc, List.cons_append, List.nil_append]; exact ⟨Weak.refl _⟩
 ·rintro ⟨j, b2⟩ ⟨q1, ra, ka, bi, t, k, cs, q2, q3, hTA, q4, q5, q6, q7, q8, q9, q10, q11, q12, q13, q14, q15⟩; dsimp only at q1 q2 q3 hTA q4 q5 q6 q7 q8 q9 q10 q11 q12 q13 q14 q15; have hpj : ∀ x, l[j]? = some x -> x.positions.length ≤ 1000000 := fun x hx => hp x (List.mem_of_getElem? hx)
  conv => whnf
  try dsimp only
  repeat' ((first | (refine gC ?_; refine CondN.lt (fun hc => ?_) (fun hc => ?_)) | (refine gL ?_; refine .map ?_) | (refine gI ?_; (refine gM ?_; refine iH fun x hx => ?_)) | (refine gB ?_; refine .last ?_) | refine BxSet.last ?_) <;> (conv => whnf; try dsimp only))
  ·conv => whnf
   try dsimp only
   repeat' ((first | (refine gF ?_; refine CallN.fn (cloneI_ok (l := x.positions) (by have := hpj x hx; omega)) ?_) | (refine gB ?_; refine .last ?_) | refine BxSet.last ?_) <;> (conv => whnf; try dsimp only))
   have hlt : bs.length < b2.length := (List.getElem?_eq_some_iff.1 q3).1; have hstr : boxCells b2 bs.length = some [.bsl ra j ka, .bsl bi 0 0, .bsl t cs.length k] := by simp [boxCells, q3, Box.cs?]
   refine BxAt.of (by rw [boxCells_append, if_neg (by omega)]; exact hstr) ?_
   conv => whnf
   try dsimp only
   repeat' ((refine gB ?_; refine .last ?_) <;> (conv => whnf; try dsimp only))
   refine BsrN.one plainAc (fun y => ⟨rfl, rfl⟩) (x := x) rfl ?_
   conv => whnf
   try dsimp only
   repeat' ((refine gPr ?_; refine pT ?_) <;> (conv => whnf; try dsimp only))
   have hra := (List.getElem?_eq_some_iff.1 q7).1; have ht := (List.getElem?_eq_some_iff.1 hTA.row).1; refine appRows (plain_p0 plainAc) (l := l.take j) (l2 := [x]) (k := ka) (k2 := 1) (by rw [List.append_assoc, List.getElem?_append_left hra]; exact q7) (by simp) (by simp; omega) rfl q8 (by omega) fun k1 hk1 => ?_
   conv => whnf
   refine ⟨.inr ?_, ?_⟩
   ·conv => whnf
    repeat' (first | exact True.intro | refine And.intro (cellsD_kill (by omega) (by first | (simp; done) | (simp; omega))) ?_)
   conv => whnf
   try dsimp only
   skip; obtain ⟨B4, hB4⟩ : ∃ B4, B4 = (b2 ++ [Box.cells [AV.str x.name, AV.int IntKind.i64 x.arity, AV.sl Cap.no (List.map intA x.positions)]] ++ [rowF Ac.av 3 1 [x]]).set ra Box.dead ++ [rowF Ac.av 3 k1 (List.take j l ++ [x])] := ⟨_, rfl⟩; have hlen4 : B4.length = b2.length + 3 := by rw [hB4]; simp
   have hold4 : ∀ b, b < b2.length -> b ≠ ra -> B4[b]? = b2[b]? := fun b hb hne => by
    rw [hB4, List.getElem?_append_left (by simp; omega), List.getElem?_set_ne (Ne.symm hne), List.append_assoc, List.getElem?_append_left hb]
   have hrow4 : B4[b2.length + 2]? = some (rowF Ac.av 3 k1 (l.take (j + 1))) := by
    rw [hB4, List.getElem?_append_right (by simp), List.take_add_one, hx]
    simp
   rw [show (b2 ++ [Box.cells [AV.str x.name, AV.int IntKind.i64 x.arity, AV.sl Cap.no (List.map intA x.positions)]] ++ [rowF Ac.av 3 1 [x]]).length = b2.length + 2 by simp, ← hB4]
   have hl1 : (List.take j l ++ [x]).length = j + 1 := by simp; omega
   rw [hl1] at hk1 ⊢; clear hB4; refine BxAt.of (cs := [.bsl ra j ka, .bsl bi 0 0, .bsl t cs.length k]) (by simp [boxCells, hold4 bs.length hlt (by omega), q3, Box.cs?]) ?_
   conv => whnf
   try dsimp only
   skip; refine ⟨?_⟩; obtain ⟨B5, hB5⟩ : ∃ B5, B5 = B4.set bs.length (Box.cells [AV.bsl (b2.length + 2) (j + 1) k1, AV.bsl bi 0 0, AV.bsl t cs.length k]) := ⟨_, rfl⟩; rw [← hB5]; have hlen5 : B5.length = b2.length + 3 := by rw [hB5, List.length_set, hlen4]
   have hstr5 : B5[bs.length]? = some (.cells [.bsl (b2.length + 2) (j + 1) k1, .bsl bi 0 0, .bsl t cs.length k]) := by rw [hB5]; simp [List.getElem?_set]; omega
   have hold5 : ∀ b, b ≠ bs.length -> B5[b]? = B4[b]? := fun b hb => by rw [hB5, List.getElem?_set_ne (Ne.symm hb)]
   clear hB5
   conv => whnf
   try dsimp only
   skip; refine BxAt.of (cs := [.bsl (b2.length + 2) (j + 1) k1, .bsl bi 0 0, .bsl t cs.length k]) (by simp [boxCells, hstr5, Box.cs?]) ?_
   conv => whnf
   try dsimp only
   skip; refine BsrN.mpt (c := B5.length) rfl ?_
   conv => whnf
   try dsimp only
   skip
   have htr5 : B5[t]? = some (rowF AV.mpt 1 k cs) := by
    rw [hold5 t (by omega), hold4 t ht (Ne.symm q6)]; exact hTA.row
   have htl5 : t < B5.length := by omega
   refine appRows plain0M (l := cs) (l2 := [B5.length]) (k := k) (k2 := 1) (by rw [List.append_assoc, List.getElem?_append_left htl5]; exact htr5) (by simp) rfl rfl hTA.le (by omega) fun k2 hk2 => ?_
   conv => whnf
   try dsimp only
   skip; obtain ⟨B6, hB6⟩ : ∃ B6, B6 = (B5 ++ [Box.mp []] ++ [rowF AV.mpt 1 1 [B5.length]]).set t Box.dead ++ [rowF AV.mpt 1 k2 (cs ++ [B5.length])] := ⟨_, rfl⟩; have hlen6 : B6.length = B5.length + 3 := by rw [hB6]; simp
   have hold6 : ∀ b, b < B5.length -> b ≠ t -> B6[b]? = B5[b]? := fun b hb hne => by
    rw [hB6, List.getElem?_append_left (by simp; omega), List.getElem?_set_ne (Ne.symm hne), List.append_assoc, List.getElem?_append_left hb]
   have hrow6 : B6[B5.length + 2]? = some (rowF AV.mpt 1 k2 (cs ++ [B5.length])) := by
    rw [hB6, List.getElem?_append_right (by simp)]
    simp
   have hmp6 : B6[B5.length]? = some (.mp []) := by
    rw [hB6, List.getElem?_append_left (by simp), List.getElem?_set_ne (by omega), List.append_assoc, List.getElem?_append_right (Nat.le_refl _)]
    simp
   rw [show (B5 ++ [Box.mp []] ++ [rowF AV.mpt 1 1 [B5.length]]).length = B5.length + 2 by simp, ← hB6]
   clear hB6; refine BxAt.of (cs := [.bsl (b2.length + 2) (j + 1) k1, .bsl bi 0 0, .bsl t cs.length k]) (by simp [boxCells, hold6 bs.length (by omega) (by omega), hstr5, Box.cs?]) ?_
   conv => whnf
   try dsimp only
   skip; refine ⟨?_⟩; obtain ⟨B7, hB7⟩ : ∃ B7, B7 = (B6.set bs.length (Box.cells [AV.bsl (b2.length + 2) (j + 1) k1, AV.bsl bi 0 0, AV.bsl (B5.length + 2) (cs ++ [B5.length]).length k2])) := ⟨_, rfl⟩; rw [← hB7]; have hlen7 : B7.length = b2.length + 6 := by rw [hB7, List.length_set]; omega
   have hstr7 : B7[bs.length]? = some (.cells [.bsl (b2.length + 2) (j + 1) k1, .bsl bi 0 0, .bsl (B5.length + 2) (cs ++ [B5.length]).length k2]) := by rw [hB7]; simp [List.getElem?_set]; omega
   have hold7 : ∀ b, b ≠ bs.length -> B7[b]? = B6[b]? := fun b hb => by rw [hB7, List.getElem?_set_ne (Ne.symm hb)]
   clear hB7
   conv => whnf
   try dsimp only
   repeat' ((refine gW ?_; refine wI ?_) <;> (conv => whnf; try dsimp only))
   have hmp7 : B7[B5.length]? = some (.mp []) := by rw [hold7 _ (by omega)]; exact hmp6
   have hb2 : ∀ b, b < b2.length -> b ≠ bs.length -> b ≠ ra -> b ≠ t -> (B7.set B5.length (.tab ⟨[], 0, []⟩))[b]? = b2[b]? := fun b h1 h2 h3 h4 => by
    rw [List.getElem?_set_ne (by omega), hold7 b h2, hold6 b (by omega) h4, hold5 b h2, hold4 b h1 h3]
   have hbi7 : bi < b2.length := (List.getElem?_eq_some_iff.1 q15).1; refine ⟨(j + 1, B7.set B5.length (.tab ⟨[], 0, []⟩)), ⟨⟨?_, b2.length + 2, k1, bi, B5.length + 2, k2, cs ++ [B5.length], ?_, ?_, ⟨?_, ?_, ?_, ?_⟩, ?_, ?_, ?_, ?_, ?_, ?_, ?_, ?_, ?_, ?_, ?_, ?_⟩, ?_⟩, ?_⟩
   ·dsimp only; omega
   ·simp [q2]
   ·dsimp only; rw [List.getElem?_set_ne (by omega)]
    exact hstr7
   ·dsimp only; rw [List.getElem?_set_ne (by omega), hold7 _ (by omega)]
    exact hrow6
   ·simpa using hk2
   ·simp; omega
   ·intro c hc; dsimp only; rcases List.mem_append.1 hc with hc | hc
    ·obtain ⟨y, m, h1, h2⟩ := hTA.tab c hc; have hcl := (List.getElem?_eq_some_iff.1 h1).1; have hcp := q10 c hc; refine ⟨y, m, ?_, h2⟩; rw [hb2 c hcl (by omega) (fun e => by rw [e, q7] at h1; cases h1) (fun e => by rw [e, hTA.row] at h1; cases h1)]
     exact h1
    ·simp at hc; subst hc; exact ⟨⟨[], 0, []⟩, [], by rw [List.getElem?_set_self (by omega)], ⟨rfl, (fun _ h => by cases h), (fun _ h => by cases h), List.nodup_nil, List.nodup_nil, (fun _ h => by cases h)⟩⟩
   ·refine ⟨by dsimp only; rw [List.length_set]; omega, fun b hb => ?_⟩
    dsimp only; rw [hb2 b (by have := q4.1; omega) (by omega) (by omega) (by omega)]
    exact q4.2 b hb
   ·omega
   ·omega
   ·dsimp only; rw [List.getElem?_set_ne (by omega), hold7 _ (by omega), hold6 _ (by omega) (by omega), hold5 _ (by omega)]
    exact hrow4
   ·exact hk1
   ·omega
   ·intro c hc; rcases List.mem_append.1 hc with hc | hc
    ·exact q10 c hc
    ·simp at hc; omega
   ·refine List.nodup_append.2 ⟨q11, by simp, fun a ha b hb => ?_⟩
    simp at hb; subst hb; obtain ⟨y, m, h1, h2⟩ := hTA.tab a ha; have hcl := (List.getElem?_eq_some_iff.1 h1).1; omega
   ·exact q12
   ·omega
   ·omega
   ·dsimp only; rw [hb2 bi hbi7 (by omega) q13 q14]
    exact q15
   ·dsimp only; omega
   ·refine EndN.toTab B5.length hmp7 ?_; refine EndN.atS ?_ rfl rfl
    conv => whnf
    repeat' ((first | (refine gV ?_; first | refine vE ?_ | refine vI ?_) | exact True.intro) <;> conv => whnf)
  ·obtain rfl : j = l.length := by omega
   rw [List.take_of_length_le (Nat.le_refl _)] at q7; have hpl : bs.length < b2.length := (List.getElem?_eq_some_iff.1 q3).1; obtain ⟨b3, hb3⟩ : ∃ b3, b3 = (b2.set ra .dead).set bs.length (.cells [slA Ac.av l, .bsl bi 0 0, .bsl t cs.length k]) := ⟨_, rfl⟩; have h3 : ∀ b, b ≠ ra -> b ≠ bs.length -> b3[b]? = b2[b]? := fun b h1 h2 => by rw [hb3, List.getElem?_set_ne (Ne.symm h2), List.getElem?_set_ne (Ne.symm h1)]
   have hI0 : IdxT b3 bs.length l [] (fun _ _ => True) bi 0 t k cs := by
    refine ⟨by rw [hb3, List.getElem?_set_self (by rw [List.length_set]; exact hpl)]; rfl, by rw [h3 bi q13 (by omega), q15]; simp [rowF, cellsOf], Nat.le_refl _, by rw [h3 t (Ne.symm q6) (by omega)]; exact hTA.row, hTA.le, q2, q11, fun i c hc => ?_⟩
    have hcm := List.mem_of_getElem? hc; obtain ⟨y, m, h1, h2⟩ := hTA.tab c hcm; exact ⟨y, m, by rw [h3 c (fun e => by rw [e, q7] at h1; cases h1) (by have := q10 c hcm; omega)]; exact h1, h2, trivial⟩
   have hP3 : Pre bs b3 := ⟨by rw [hb3]; simpa using q4.1, fun b hb => by rw [h3 b (by omega) (by omega)]; exact q4.2 b hb⟩
   refine LoopP.by (fb := false) (fun st_ (a : Nat × List Box) => ⟨[(6, .ptr bs.length 0), (51, slA It.av its), (52, .int .i64 its.length), (53, .int .i64 (a.1 : Int))], a.2, bs.length⟩)
    (fun a => a.1 ≤ its.length ∧ ∃ bj kj, IdxT a.2 bs.length l (its.take a.1) (fun _ _ => True) bj kj t k cs ∧ Pre bs a.2 ∧ bs.length < bj ∧ t ≠ bj ∧ t < a.2.length)
    (fun a => its.length - a.1) (0, b3) ⟨Nat.zero_le _, bi, 0, by simpa using hI0, hP3, q12, Ne.symm q14, (List.getElem?_eq_some_iff.1 hI0.tabs).1⟩ ?_ ?_
   ·refine EndN.frozeBx plainAc bs.length 0 (b := ra) (m := l.length) (k := ka) (l := l) q3 rfl q7 (Nat.le_refl _) ?_; rw [List.take_length]; simp only [List.set_cons_zero]; rw [show (Box.cells [AV.sl Cap.no (l.map Ac.av), .bsl bi 0 0, .bsl t cs.length k]) = .cells [slA Ac.av l, .bsl bi 0 0, .bsl t cs.length k] from rfl, ← hb3]; exact ⟨Weak.refl _⟩
   ·rintro ⟨j, b4⟩ ⟨r1, bj, kj, r2, r3, r4, r5, r6⟩; dsimp only at r1 r2 r3 r4 r5 r6; have hlt4 : bs.length < b4.length := (List.getElem?_eq_some_iff.1 r2.str).1; have hbj4 : bj < b4.length := (List.getElem?_eq_some_iff.1 r2.items).1; have hln : (its.take j).length = j := by rw [List.length_take]; omega
    have hstr4 := r2.str; rw [hln] at hstr4
    by_cases hj : j < its.length
    ·obtain ⟨i, hi⟩ : ∃ i, its[j]? = some i := ⟨_, List.getElem?_eq_getElem hj⟩
     conv => whnf
     try dsimp only
     repeat' ((first | (refine gC ?_; (refine gD ?_; refine cI ?_)) | (refine gI ?_; (refine gM ?_; refine iE ?_)) | (refine gB ?_; refine .last ?_) | refine BxSet.last ?_) <;> (conv => whnf; try dsimp only))
     have hb0 : boxCells b4 bs.length = some [slA Ac.av l, .bsl bj j kj, .bsl t cs.length k] := by simp [boxCells, hstr4, Box.cs?]
     refine BxAt.of (by rw [boxCells_append, if_neg (by omega)]; exact hb0) ?_
     conv => whnf
     try dsimp only
     repeat' ((first | (refine gG ?_; refine CallP.fn (own_ok i) ?_) | (refine gB ?_; refine .last ?_)) <;> (conv => whnf; try dsimp only))
     refine BsrN.one plainIt (fun y => ⟨rfl, rfl⟩) (x := i) rfl ?_
     conv => whnf
     try dsimp only
     repeat' ((refine gPr ?_; refine pT ?_) <;> (conv => whnf; try dsimp only))
     refine appRows (plain_p0 plainIt) (l := its.take j) (l2 := [i]) (k := kj) (k2 := 1) (by rw [List.append_assoc, List.getElem?_append_left hbj4]; exact r2.items) (by simp) (by simp; omega) rfl (by have := r2.le; omega) (by omega) fun k1 hk1 => ?_
     conv => whnf
     refine ⟨.inr ?_, ?_⟩
     ·conv => whnf
      repeat' (first | exact True.intro | refine And.intro (cellsD_kill (by omega) (by first | (simp; done) | (simp; omega))) ?_)
     conv => whnf
     try dsimp only
     skip; obtain ⟨B5, hB5⟩ : ∃ B5, B5 = (b4 ++ [Box.cells [AV.int IntKind.i64 i.id, AV.str i.atom.name, AV.sl Cap.no (i.atom.args.map Tm.av)]] ++ [rowF It.av 3 1 [i]]).set bj Box.dead ++ [rowF It.av 3 k1 (its.take j ++ [i])] := ⟨_, rfl⟩; have hlen5 : B5.length = b4.length + 3 := by rw [hB5]; simp
     have hold5 : ∀ b, b < b4.length -> b ≠ bj -> B5[b]? = b4[b]? := fun b hb hne => by
      rw [hB5, List.getElem?_append_left (by simp; omega), List.getElem?_set_ne (Ne.symm hne), List.append_assoc, List.getElem?_append_left hb]
     have hrow5 : B5[b4.length + 2]? = some (rowF It.av 3 k1 (its.take (j + 1))) := by
      rw [hB5, List.getElem?_append_right (by simp), List.take_add_one, hi]
      simp
     rw [show (b4 ++ [Box.cells [AV.int IntKind.i64 i.id, AV.str i.atom.name, AV.sl Cap.no (List.map Tm.av i.atom.args)]] ++ [rowF It.av 3 1 [i]]).length = b4.length + 2 by simp, ← hB5]
     have hl1 : (its.take j ++ [i]).length = j + 1 := by simp; omega
     rw [hl1] at hk1 ⊢; clear hB5; refine BxAt.of (cs := [slA Ac.av l, .bsl bj j kj, .bsl t cs.length k]) (by simp [boxCells, hold5 bs.length hlt4 (by omega), hstr4, Box.cs?]) ?_
     conv => whnf
     try dsimp only
     skip; refine ⟨?_⟩; obtain ⟨B6, hB6⟩ : ∃ B6, B6 = B5.set bs.length (Box.cells [.sl .no (l.map Ac.av), AV.bsl (b4.length + 2) (j + 1) k1, AV.bsl t cs.length k]) := ⟨_, rfl⟩; rw [← hB6]; have hlen6 : B6.length = b4.length + 3 := by rw [hB6, List.length_set, hlen5]
     have hstr6 : B6[bs.length]? = some (.cells [slA Ac.av l, .bsl (b4.length + 2) (j + 1) k1, .bsl t cs.length k]) := by rw [hB6, List.getElem?_set_self (by omega)]
     have hold6 : ∀ b, b ≠ bs.length -> B6[b]? = B5[b]? := fun b hb => by rw [hB6, List.getElem?_set_ne (Ne.symm hb)]
     clear hB6; have hln1 : (its.take (j + 1)).length = j + 1 := by rw [List.length_take]; omega
     have hb6 : ∀ b, b < b4.length -> b ≠ bs.length -> b ≠ bj -> B6[b]? = b4[b]? := fun b h1 h2 h3 => by rw [hold6 b h2, hold5 b h1 h3]
     conv => whnf
     try dsimp only
     repeat' ((refine gW ?_; refine wI ?_) <;> (conv => whnf; try dsimp only))
     refine ⟨(j + 1, B6), ⟨⟨by dsimp only; omega, b4.length + 2, k1, ⟨by rw [hln1]; exact hstr6, by dsimp only; rw [hold6 _ (by omega)]; exact hrow5, by rw [hln1]; exact hk1, ?_, r2.tle, r2.len, r2.nod, fun c d hd => ?_⟩, ⟨by dsimp only; have := r3.1; omega, fun b hb => ?_⟩, by omega, by omega, by dsimp only; omega⟩, by dsimp only; omega⟩, ?_⟩
     ·dsimp only; rw [hb6 t (List.getElem?_eq_some_iff.1 r2.tabs).1 (by omega) r5]
      exact r2.tabs
     ·dsimp only; obtain ⟨x, m, h1, h2, h3⟩ := r2.tab c d hd; have hdm := List.mem_of_getElem? hd; obtain ⟨n1, n2, n3⟩ := r2.ne hdm; exact ⟨x, m, by rw [hb6 d (List.getElem?_eq_some_iff.1 h1).1 n1 n2]; exact h1, h2, trivial⟩
     ·dsimp only; rw [hb6 b (by have := r3.1; omega) (by omega) (by omega)]
      exact r3.2 b hb
     refine EndN.atS ?_ rfl rfl
     conv => whnf
     repeat' ((first | (refine gV ?_; first | refine vE ?_ | refine vI ?_) | exact True.intro) <;> conv => whnf)
    ·obtain rfl : j = its.length := by omega
     rw [List.take_of_length_le (Nat.le_refl _)] at r2
     conv => whnf
     try dsimp only
     repeat' ((refine gC ?_; (refine gD ?_; refine cJ ?_)) <;> (conv => whnf; try dsimp only))
     refine CallN.raw (ixRebuild_ok r2 ha) ?_; rintro r b5 ⟨rfl, s1, s2, s3⟩
     conv => whnf
     try dsimp only
     skip; refine ⟨_, Weak.refl _, .inl ⟨rfl, ⟨bj, kj, t, k, cs, s1, (fun h => by have := hV _ h; omega), (fun h => by have := hV _ h; omega), (fun c hc h => by have := hV _ h; have := q10 c hc; omega), r5⟩, ⟨by have := r3.1; exact Nat.le_trans this s2, fun b hb => ?_⟩⟩⟩
     rw [s3 b (by have := r3.1; omega) (fun hc => by have := q10 b hc; omega)]
     exact r3.2 b hb
end Go.CK
namespace Go.CK
open Go.AM Go.Proofs
theorem ixCmp_ok {i : It} {id : Int} : Fun Tryz.prog 100 [i.av, .int .i64 id] (.int .i64 (cmpI i.id id)) := by
 refine Fun.of (op_p_index_Index_find_1 (by simp) ?_) rfl rfl
 conv => whnf
 conv => whnf
 repeat' ((first | (refine gF ?_; refine CallN.fn (cmpI_ok) ?_) | refine RetP.nrm ?_) <;> conv => whnf)
def posI (l : List It) (id : Int) : Nat := l.countP fun x => decide (x.id < id)
def hasI (l : List It) (id : Int) : Bool := l.any fun x => decide (x.id = id)
theorem wU64 {n : Int} {K : Int -> Prop} (k : K n) (h : 0 ≤ n ∧ n ≤ 18446744073709551615) : WrapN .u64 n K := ⟨by rw [IntWalk.u64_in n h]; exact k⟩
theorem half_eq (i j : Nat) : ((i : Int) + (j : Int)) / 2 ^ min (Int.toNat 1) IntKind.u64.bits = (((i + j) / 2 : Nat) : Int) := by
 rw [show (min (Int.toNat 1) IntKind.u64.bits) = 1 from rfl]; omega
theorem cmpI_lt {x y : Int} : cmpI x y < 0 ↔ x < y := by unfold cmpI; split <;> rename_i h <;> first | (split <;> omega) | omega
theorem posI_at {l : List It} {id : Int} {i : Nat} (h1 : ∀ k x, k < i -> l[k]? = some x -> x.id < id) (h2 : ∀ k x, i ≤ k -> l[k]? = some x -> id ≤ x.id) (hi : i ≤ l.length) : posI l id = i := by
 have e : l.countP (fun x => decide (x.id < id)) = (l.take i).countP (fun x => decide (x.id < id)) + (l.drop i).countP (fun x => decide (x.id < id)) := by rw [← List.countP_append, List.take_append_drop]
 have e1 : (l.take i).countP (fun x => decide (x.id < id)) = i := by
  rw [List.countP_eq_length.2 fun x hx => ?_, List.length_take, Nat.min_eq_left hi]; obtain ⟨k, hk⟩ := List.getElem?_of_mem hx; rw [List.getElem?_take] at hk; split at hk
  ·exact decide_eq_true (h1 k x (by assumption) hk)
  ·cases hk
 have e2 : (l.drop i).countP (fun x => decide (x.id < id)) = 0 := List.countP_eq_zero.2 fun x hx => by
  obtain ⟨k, hk⟩ := List.getElem?_of_mem hx; rw [List.getElem?_drop] at hk; have := h2 (i + k) x (by omega) hk
  simp; omega
 rw [posI, e, e1, e2]; rfl
set_option maxRecDepth 100000 in
theorem ixSearch_ok {bs : List Box} {bi ki : Nat} {l : List It} {id : Int} (hb : bs[bi]? = some (rowF It.av 3 ki l)) (ha : Asc l) (hl : l.length ≤ 1000000) :
  AM.Sem Tryz.prog 99 [.bsl bi l.length ki, .int .i64 id, .fn (.func 100) [] []] bs fun r bs' => r = .tup [.int .i64 (posI l id), .bool (hasI l id)] ∧ bs' = bs := by
 refine opS_slices_BinarySearchFunc_api_Item_api_Item_int (by simp) ?_
 conv => whnf
 try dsimp only
 skip
 refine LoopP.by (fb := false) (fun st_ (a : Nat × Nat) => ⟨[(0, .bsl bi l.length ki), (1, .int .i64 id), (2, .fn (.func 100) [] []), (8, .int .i64 l.length), (9, .int .i64 (a.1 : Int)), (10, .int .i64 (a.2 : Int))], bs, bs.length⟩)
  (fun a => a.1 ≤ a.2 ∧ a.2 ≤ l.length ∧ (∀ k x, k < a.1 -> l[k]? = some x -> x.id < id) ∧ ∀ k x, a.2 ≤ k -> l[k]? = some x -> id ≤ x.id) (fun a => a.2 - a.1) (0, l.length)
  ⟨Nat.zero_le _, Nat.le_refl _, fun k x hk => absurd hk (Nat.not_lt_zero _), fun k x hk hx => absurd (List.getElem?_eq_some_iff.1 hx).1 (by dsimp only at hk; omega)⟩ ?_ ?_
 ·refine EndN.atS ?_ rfl rfl
  conv => whnf
  repeat' ((first | (refine gV ?_; first | refine vE ?_ | refine vI ?_) | exact True.intro) <;> conv => whnf)
 ·rintro ⟨i, j⟩ ⟨q1, q2, q3, q4⟩; dsimp only at q1 q2 q3 q4
  by_cases hij : i < j
  ·obtain ⟨m, hm⟩ : ∃ m, m = (i + j) / 2 := ⟨_, rfl⟩; obtain ⟨x, hx⟩ : ∃ x, l[m]? = some x := ⟨_, List.getElem?_eq_getElem (by omega)⟩
   conv => whnf
   try dsimp only
   repeat' ((first | (refine gC ?_; (refine gD ?_; refine cI ?_)) | (refine gW ?_; refine wI ?_)) <;> (conv => whnf; try dsimp only))
   refine wU64 ?_ (by omega)
   conv => whnf
   try dsimp only
   repeat' ((refine gN ?_; refine nS ?_) <;> (conv => whnf; try dsimp only))
   rw [half_eq, ← hm]
   conv => whnf
   try dsimp only
   repeat' ((first | (refine gW ?_; refine wI ?_) | (refine gN ?_; refine nS ?_)) <;> (conv => whnf; try dsimp only))
   refine ElN.elem plainIt (l := l) (x := x) hb (by simpa using hx) ?_
   conv => whnf
   try dsimp only
   repeat' ((first | (refine gF ?_; refine CallN.fn (ixCmp_ok) ?_) | (refine gC ?_; refine CondN.lt (fun hc => ?_) (fun hc => ?_)) | (refine gW ?_; refine wI ?_) | (refine gH ?_; refine hB ?_)) <;> (conv => whnf; try dsimp only))
   ·have hlt : x.id < id := cmpI_lt.1 (by assumption)
    refine ⟨(m + 1, j), ⟨⟨by dsimp only; omega, q2, fun k y hk hy => ?_, q4⟩, by dsimp only; omega⟩, ?_⟩
    ·dsimp only at hk; rcases Nat.lt_or_ge k m with h | h
     ·have h1 := List.pairwise_iff_getElem.1 ha k m (List.getElem?_eq_some_iff.1 hy).1 (List.getElem?_eq_some_iff.1 hx).1 h; rw [(List.getElem?_eq_some_iff.1 hy).2, (List.getElem?_eq_some_iff.1 hx).2] at h1; omega
     ·obtain rfl : k = m := by omega
      rw [hx] at hy; cases hy; exact hlt
    ·refine EndN.atS ?_ rfl rfl
     conv => whnf
     repeat' ((first | (refine gV ?_; first | refine vE ?_ | refine vI ?_) | exact True.intro) <;> conv => whnf)
   ·have hlt : ¬ x.id < id := fun h => absurd (cmpI_lt.2 h) (by omega)
    refine ⟨(i, m), ⟨⟨by dsimp only; omega, by dsimp only; omega, q3, fun k y hk hy => ?_⟩, by dsimp only; omega⟩, ?_⟩
    ·dsimp only at hk; rcases Nat.lt_or_ge m k with h | h
     ·have h1 := List.pairwise_iff_getElem.1 ha m k (List.getElem?_eq_some_iff.1 hx).1 (List.getElem?_eq_some_iff.1 hy).1 h; rw [(List.getElem?_eq_some_iff.1 hy).2, (List.getElem?_eq_some_iff.1 hx).2] at h1; omega
     ·obtain rfl : k = m := by omega
      rw [hx] at hy; cases hy; omega
    ·refine EndN.atS ?_ rfl rfl
     conv => whnf
     repeat' ((first | (refine gV ?_; refine vE ?_) | exact True.intro) <;> conv => whnf)
  ·obtain rfl : i = j := by omega
   have hp := posI_at q3 q4 q2
   conv => whnf
   try dsimp only
   repeat' ((first | (refine gC ?_; first | (refine gD ?_; first | refine cI ?_ | refine cJ ?_) | refine CondN.lt (fun hc => ?_) (fun hc => ?_)) | (refine gN ?_; refine nS ?_)) <;> (conv => whnf; try dsimp only))
   ·obtain ⟨x, hx⟩ : ∃ x, l[i]? = some x := ⟨_, List.getElem?_eq_getElem (by omega)⟩
    refine ElN.elem plainIt (l := l) (x := x) hb (by simpa using hx) ?_
    conv => whnf
    try dsimp only
    repeat' ((first | (refine gF ?_; refine CallN.fn (ixCmp_ok) ?_) | (refine gC ?_; (refine gD ?_; refine cI ?_)) | (refine gH ?_; refine hB ?_)) <;> (conv => whnf; try dsimp only))
    have hh : hasI l id = decide (cmpI x.id id = 0) := by
     by_cases e : x.id = id
     ·rw [decide_eq_true (cmpI_z.2 e)]; exact List.any_eq_true.2 ⟨x, List.mem_of_getElem? hx, decide_eq_true e⟩
     ·rw [decide_eq_false (fun h => e (cmpI_z.1 h)), hasI, List.any_eq_false]; intro y hy; obtain ⟨k, hk⟩ := List.getElem?_of_mem hy
      have hne : ¬ y.id = id := fun e2 => by
       rcases Nat.lt_trichotomy k i with h | h | h
       ·have := q3 k y h hk; omega
       ·subst h; rw [hx] at hk; cases hk; exact e e2
       ·have h1 := List.pairwise_iff_getElem.1 ha i k (List.getElem?_eq_some_iff.1 hx).1 (List.getElem?_eq_some_iff.1 hk).1 h; rw [(List.getElem?_eq_some_iff.1 hk).2, (List.getElem?_eq_some_iff.1 hx).2] at h1; have := q4 i x (Nat.le_refl _) hx; omega
      simpa using hne
    rw [hp, hh]; exact ⟨_, Weak.refl _, .inl ⟨rfl, rfl⟩⟩
   ·have hh : hasI l id = false := by
     rw [hasI, List.any_eq_false]; intro x hx; obtain ⟨k, hk⟩ := List.getElem?_of_mem hx; have := q3 k x (by have := (List.getElem?_eq_some_iff.1 hk).1; omega) hk
     simp; omega
    rw [hp, hh]; exact ⟨_, Weak.refl _, .inl ⟨rfl, rfl⟩⟩
set_option maxRecDepth 100000 in
theorem ixFind_ok {bs : List Box} {p : Nat} {acc : List Ac} {its : List It} {f : Nat -> List It} {bi ki t kt : Nat} {cs : List Nat} {id : Int} (h : IdxG bs p acc its f bi ki t kt cs) (ha : Asc its) (hl : its.length ≤ 1000000) :
  AM.Sem Tryz.prog 48 [.ptr p 0, .int .i64 id] bs fun r bs' => r = .tup [.int .i64 (posI its id), .bool (hasI its id)] ∧ bs' = bs := by
 have hb0 : boxCells bs p = some [slA Ac.av acc, .bsl bi its.length ki, .bsl t cs.length kt] := by simp [boxCells, h.str, Box.cs?]
 refine opS_p_index_Index_find (by simp) ?_
 conv => whnf
 try dsimp only
 repeat' ((refine gB ?_; refine .of (by assumption) ?_) <;> (conv => whnf; try dsimp only))
 refine CallN.raw (ixSearch_ok h.items ha hl) ?_; rintro r b' ⟨rfl, rfl⟩
 conv => whnf
 try dsimp only
 skip; exact ⟨_, Weak.refl _, .inl ⟨rfl, rfl⟩⟩
theorem insIt_at {l : List It} (h : Asc l) (i : It) : insIt l i = l.take (posI l i.id) ++ i :: l.drop (posI l i.id) := by
 unfold insIt
 have e : l.filter (fun x => decide (x.id < i.id)) = l.take (posI l i.id) ∧ l.filter (fun x => !decide (x.id < i.id)) = l.drop (posI l i.id) := by
  unfold posI
  induction l with
  | nil => exact ⟨rfl, rfl⟩
  | cons a l ih =>
   rw [Asc, List.pairwise_cons] at h; obtain ⟨i1, i2⟩ := ih h.2
   by_cases hx : a.id < i.id
   ·simp only [List.filter_cons, List.countP_cons, hx, decide_true, if_true, Bool.not_true, Bool.false_eq_true, if_false, List.take_succ_cons, List.drop_succ_cons]; exact ⟨by rw [i1], i2⟩
   ·have h0 : ∀ x ∈ l, ¬ x.id < i.id := fun x hm => by have := h.1 x hm; omega
    have hc : l.countP (fun x => decide (x.id < i.id)) = 0 := List.countP_eq_zero.2 fun x hm => by simpa using h0 x hm
    have hf : l.filter (fun x => decide (x.id < i.id)) = [] := List.filter_eq_nil_iff.2 fun x hm => by simpa using h0 x hm
    have hg : l.filter (fun x => !decide (x.id < i.id)) = l := List.filter_eq_self.2 fun x hm => by simpa using h0 x hm
    simp only [List.filter_cons, List.countP_cons, hx, decide_false, Bool.false_eq_true, if_false, Bool.not_false, if_true, hc, hf, hg]; exact ⟨rfl, rfl⟩
 rw [e.1, e.2]
theorem posI_le (l : List It) (id : Int) : posI l id ≤ l.length := List.countP_le_length
end Go.CK
