/-
  LOOKUP, in the abstract machine: the functions' contracts, 7: the chapter's examples. By an AI agent.
-/
import Derived.Test.YtfpmkfoddeogbaaLkpF
set_option linter.unusedSimpArgs false
set_option linter.unusedVariables false
namespace Go.CK
open Go.AM Go.Proofs
def tV (n : Int) : Tm := .mk 1 n .empty []
def tI (n : Int) : Tm := .mk 0 n .empty []
set_option maxRecDepth 100000 in
theorem Var_ok {n : Int} : Fun Try.prog 64 [.int .i64 n] (.agg [.int .i64 1, .int .i64 n, .str .empty, .sl .no []]) := by
  refine Fun.of (op_constraintref03_Var (by simp) ?_) rfl rfl
  conv => whnf
  conv => whnf
  repeat' ((first | refine cY ?_ | refine cN ?_ | refine .not ?_ | refine wI ?_ | refine .map ?_ | refine .nil ?_ | refine .one ?_ | refine .app ?_ | refine .set ?_ | refine .rep ?_ | refine .any ?_ | refine cI ?_ | refine cJ ?_ | refine cYa ?_ | refine cNa ?_ | refine cIa ?_ | refine cJa ?_ | refine cIr ?_ | refine cId ?_ | refine cJd ?_ | with_reducible refine CondN.and ?_ | with_reducible refine CondN.or ?_ | refine CondN.lt (fun hc => ?_) (fun hc => ?_) | refine CondN.le (fun hc => ?_) (fun hc => ?_) | refine CondN.dec (fun hc => ?_) (fun hc => ?_) | refine CondN.any (fun hc => ?_) (fun hc => ?_) | refine nS ?_ | refine iA ?_ | refine iB ?_ | refine iC fun x hx => ?_ | refine iD fun x hx => ?_ | refine iE ?_ | refine iF ?_ | refine iG ?_ | refine iH fun x hx => ?_ | refine iI fun x hx => ?_ | refine iJ ?_ | refine hB ?_ | refine aP ?_ | refine .last ?_ | refine .last2 ?_ | refine zN fun k hk => ?_ | refine aR fun k hk => ?_ | refine mA ?_ | refine mS (fun hc => ?_) (fun hc => ?_) | refine RetP.nrm ?_) <;> conv => whnf)
  rfl
set_option maxRecDepth 100000 in
theorem Int_ok {n : Int} : Fun Try.prog 65 [.int .i64 n] (.agg [.int .i64 0, .int .i64 n, .str .empty, .sl .no []]) := by
  refine Fun.of (op_constraintref03_Int (by simp) ?_) rfl rfl
  conv => whnf
  conv => whnf
  repeat' ((first | refine cY ?_ | refine cN ?_ | refine .not ?_ | refine wI ?_ | refine .map ?_ | refine .nil ?_ | refine .one ?_ | refine .app ?_ | refine .set ?_ | refine .rep ?_ | refine .any ?_ | refine cI ?_ | refine cJ ?_ | refine cYa ?_ | refine cNa ?_ | refine cIa ?_ | refine cJa ?_ | refine cIr ?_ | refine cId ?_ | refine cJd ?_ | with_reducible refine CondN.and ?_ | with_reducible refine CondN.or ?_ | refine CondN.lt (fun hc => ?_) (fun hc => ?_) | refine CondN.le (fun hc => ?_) (fun hc => ?_) | refine CondN.dec (fun hc => ?_) (fun hc => ?_) | refine CondN.any (fun hc => ?_) (fun hc => ?_) | refine nS ?_ | refine iA ?_ | refine iB ?_ | refine iC fun x hx => ?_ | refine iD fun x hx => ?_ | refine iE ?_ | refine iF ?_ | refine iG ?_ | refine iH fun x hx => ?_ | refine iI fun x hx => ?_ | refine iJ ?_ | refine hB ?_ | refine aP ?_ | refine .last ?_ | refine .last2 ?_ | refine zN fun k hk => ?_ | refine aR fun k hk => ?_ | refine mA ?_ | refine mS (fun hc => ?_) (fun hc => ?_) | refine RetP.nrm ?_) <;> conv => whnf)
  rfl
def lkR : Rl := ⟨.empty, [⟨⟨⟨[112]⟩⟩, [tV 0, tV 1]⟩, ⟨⟨⟨[113]⟩⟩, [tV 1, tI 3, tV 2]⟩], [], [], [], 3⟩
set_option maxRecDepth 100000 in
theorem rule30_ok : Fun Try.prog 63 [] lkR.av := by
  refine Fun.of (op_constraintlaw30_rule (by simp) ?_) rfl rfl
  conv => whnf
  conv => whnf
  repeat' ((first | refine CallN.fn (Var_ok) ?_ | refine CallP.fn (Var_ok) ?_ | refine CallN.fn (Int_ok) ?_ | refine CallP.fn (Int_ok) ?_ | refine cY ?_ | refine cN ?_ | refine .not ?_ | refine wI ?_ | refine .map ?_ | refine .nil ?_ | refine .one ?_ | refine .app ?_ | refine .set ?_ | refine .rep ?_ | refine .any ?_ | refine cI ?_ | refine cJ ?_ | refine cYa ?_ | refine cNa ?_ | refine cIa ?_ | refine cJa ?_ | refine cIr ?_ | refine cId ?_ | refine cJd ?_ | with_reducible refine CondN.and ?_ | with_reducible refine CondN.or ?_ | refine CondN.lt (fun hc => ?_) (fun hc => ?_) | refine CondN.le (fun hc => ?_) (fun hc => ?_) | refine CondN.dec (fun hc => ?_) (fun hc => ?_) | refine CondN.any (fun hc => ?_) (fun hc => ?_) | refine nS ?_ | refine iA ?_ | refine iB ?_ | refine iC fun x hx => ?_ | refine iD fun x hx => ?_ | refine iE ?_ | refine iF ?_ | refine iG ?_ | refine iH fun x hx => ?_ | refine iI fun x hx => ?_ | refine iJ ?_ | refine hB ?_ | refine aP ?_ | refine .last ?_ | refine .last2 ?_ | refine zN fun k hk => ?_ | refine aR fun k hk => ?_ | refine mA ?_ | refine mS (fun hc => ?_) (fun hc => ?_) | refine RetP.nrm ?_) <;> conv => whnf)
  simp [lkR, Rl.av, At.av, tV, tI, Tm.av_w, Tm.avw, Tm.kind, Tm.num, Tm.name, Tm.args]
  rfl
def lkP : Pg := ⟨[], [lkR]⟩
def lkX : Pl := ⟨⟨0, 0, false⟩, [1], [[0, 1]], []⟩
def lkA : Ac := ⟨⟨⟨[113]⟩⟩, 3, [0, 1]⟩
theorem lk_all : allAc lkP [lkX, lkX] = [lkA] := by rfl
theorem lk_known : knownI lkR [0] 1 = [0, 1] := by rfl
theorem lk_p0 : pickI lkP [lkA] lkX 0 = 0 := by rfl
theorem lk_p1 : pickI lkP [lkA] lkX 1 = -1 := by rfl
theorem lk_key : keyI lkP lkX 0 = [tV 1, tI 3] := by rfl
def lkXav : AV := .agg [.int .i64 0, .int .i64 0, .bool false, .sl .no [.int .i64 1], .sl .no [.sl .no [.int .i64 0, .int .i64 1]], .sl .no []]
theorem lkP_ok8 : lkP.ok8 := fun r hr => by
  simp only [lkP, List.mem_singleton] at hr
  subst hr
  decide
theorem lkR_ok2 : lkR.ok2 := by
  refine ⟨by decide, fun h hh => ?_⟩
  simp only [lkR, Rl.heads, List.append_nil, List.mem_cons, List.not_mem_nil, or_false] at hh
  rcases hh with rfl | rfl
  · refine ⟨by decide, by decide, fun t ht => ?_⟩
    simp only [List.mem_cons, List.not_mem_nil, or_false] at ht
    rcases ht with rfl | rfl <;> decide
  · refine ⟨by decide, by decide, fun t ht => ?_⟩
    simp only [List.mem_cons, List.not_mem_nil, or_false] at ht
    rcases ht with rfl | rfl | rfl <;> decide
set_option maxRecDepth 100000 in
theorem live30_ok : Fun Try.prog 18 [] (.bool true) := by
  have hA := all_ok (p := lkP) (plans := [lkX, lkX]) lkP_ok8 (by decide) (by decide)
  rw [lk_all] at hA
  have hK := known_ok (r := lkR) (done := [0]) (head := 1) lkR_ok2.ok (by decide)
  rw [lk_known] at hK
  have h0 := pick_ok (p := lkP) (l := [lkA]) (x := lkX) (k := 0) lkP_ok8
  rw [lk_p0] at h0
  have h1 := pick_ok (p := lkP) (l := [lkA]) (x := lkX) (k := 1) lkP_ok8
  rw [lk_p1] at h1
  have hY := key_ok (p := lkP) (x := lkX) (k := 0) lkP_ok8 (fun y hy => by rw [show headI lkP lkX 0 = some (⟨⟨⟨[113]⟩⟩, [tV 1, tI 3, tV 2]⟩, [0, 1]) from rfl] at hy; cases hy; decide)
  rw [lk_key] at hY
  have hS := sameInts_ok (a := [0, 1]) (b := [0, 1])
  have hT := sameTerms_ok (l := [tV 1, tI 3]) (m := [tV 1, tI 3])
  simp only [Tm.cmps_refl, decide_true] at hT
  simp only [decide_true] at hS
  simp only [slA, List.map_cons, List.map_nil, lkA, lkX, lkP, Ac.av, Pl.av, Pg.av, tV, tI, Tm.av_w, Tm.avw, Tm.kind, Tm.num, Tm.name, Tm.args, intA] at hA hK h0 h1 hY hS hT
  refine Fun.of (op_constraintlaw30_live (by simp) ?_) rfl rfl
  conv => whnf
  conv => whnf
  repeat' ((first | refine CallN.fn (rule30_ok) ?_ | refine CallP.fn (rule30_ok) ?_ | refine CallN.fn (hA) ?_ | refine CallP.fn (hA) ?_ | refine CallN.fn (hK) ?_ | refine CallP.fn (hK) ?_ | refine CallN.fn (h0) ?_ | refine CallP.fn (h0) ?_ | refine CallN.fn (h1) ?_ | refine CallP.fn (h1) ?_ | refine CallN.fn (hY) ?_ | refine CallP.fn (hY) ?_ | refine CallN.fn (hS) ?_ | refine CallP.fn (hS) ?_ | refine CallN.fn (hT) ?_ | refine CallP.fn (hT) ?_ | refine CallN.fn (Var_ok) ?_ | refine CallP.fn (Var_ok) ?_ | refine CallN.fn (Int_ok) ?_ | refine CallP.fn (Int_ok) ?_ | refine cY ?_ | refine cN ?_ | refine .not ?_ | refine wI ?_ | refine .map ?_ | refine .nil ?_ | refine .one ?_ | refine .app ?_ | refine .set ?_ | refine .rep ?_ | refine .any ?_ | refine cI ?_ | refine cJ ?_ | refine cYa ?_ | refine cNa ?_ | refine cIa ?_ | refine cJa ?_ | refine cIr ?_ | refine cId ?_ | refine cJd ?_ | with_reducible refine CondN.and ?_ | with_reducible refine CondN.or ?_ | refine CondN.lt (fun hc => ?_) (fun hc => ?_) | refine CondN.le (fun hc => ?_) (fun hc => ?_) | refine CondN.dec (fun hc => ?_) (fun hc => ?_) | refine CondN.any (fun hc => ?_) (fun hc => ?_) | refine nS ?_ | refine iA ?_ | refine iB ?_ | refine iC fun x hx => ?_ | refine iD fun x hx => ?_ | refine iE ?_ | refine iF ?_ | refine iG ?_ | refine iH fun x hx => ?_ | refine iI fun x hx => ?_ | refine iJ ?_ | refine hB ?_ | refine aP ?_ | refine .last ?_ | refine .last2 ?_ | refine zN fun k hk => ?_ | refine aR fun k hk => ?_ | refine mA ?_ | refine mS (fun hc => ?_) (fun hc => ?_) | refine RetP.nrm ?_) <;> conv => whnf)
end Go.CK
