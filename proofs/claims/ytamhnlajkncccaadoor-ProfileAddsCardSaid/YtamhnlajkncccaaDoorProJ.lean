/-
  PROFILE: the laws Of, Splits, Adds, Same, Sums. By an AI agent.
-/
import Derived.Test.YtamhnlajkncccaaDoorProI
set_option linter.unusedSimpArgs false
set_option linter.unusedVariables false
namespace Go.CK
open Go.AM Go.Proofs
theorem ofC_len (rules : Int) (l : List Ev) : (ofC rules l).rules.length ≤ 40 := by
  show (cntR (ruleN rules) l).length ≤ 40
  rw [cntR_len, ruleN]; omega
theorem ofC_fit (rules : Int) (l : List Ev) (hl : l.length ≤ 100000) : (ofC rules l).fit := fun x hx => by
  have h1 := okC_iff.1 (ofC_ok rules l) x hx
  have h2 := ofC_le2 rules l x hx
  omega
set_option maxRecDepth 100000 in
theorem profileOf_law {rules : Int} {l : List Ev} : Fun Tryd.prog 3 [.int .i64 rules, slA Ev.av l] (.bool true) := by
  have hL := live37_ok
  by_cases hl : l.length ≤ 500
  · have h1 := of_ok (rules := rules) (l := l) (by omega)
    have h2 := refOf_ok (rules := rules) (l := l) (by omega)
    have h3 := refSame_ok (a := ofC rules l) (b := ofC rules l) (by have := ofC_len rules l; omega) (by have := ofC_len rules l; omega)
    simp only [decide_true] at h3
    refine Fun.of (op_constraintlaw37_ProfileOf (by simp) ?_) rfl rfl
    conv => whnf
    conv => whnf
    repeat' ((first | refine CallN.fn (h1) ?_ | refine CallP.fn (h1) ?_ | refine CallN.fn (h2) ?_ | refine CallP.fn (h2) ?_ | refine CallN.fn (h3) ?_ | refine CallP.fn (h3) ?_ | refine CallN.fn (hL) ?_ | refine CallP.fn (hL) ?_ | refine cY ?_ | refine cN ?_ | refine .not ?_ | refine wI ?_ | refine .map ?_ | refine .nil ?_ | refine .one ?_ | refine .app ?_ | refine .set ?_ | refine .rep ?_ | refine .any ?_ | refine cI ?_ | refine cJ ?_ | refine cYa ?_ | refine cNa ?_ | refine cIa ?_ | refine cJa ?_ | refine cIr ?_ | refine cId ?_ | refine cJd ?_ | with_reducible refine CondN.and ?_ | with_reducible refine CondN.or ?_ | refine CondN.lt (fun hc => ?_) (fun hc => ?_) | refine CondN.le (fun hc => ?_) (fun hc => ?_) | refine CondN.dec (fun hc => ?_) (fun hc => ?_) | refine CondN.any (fun hc => ?_) (fun hc => ?_) | refine nS ?_ | refine iA ?_ | refine iB ?_ | refine iC fun x hx => ?_ | refine iD fun x hx => ?_ | refine iE ?_ | refine iF ?_ | refine iG ?_ | refine iH fun x hx => ?_ | refine iI fun x hx => ?_ | refine iJ ?_ | refine hB ?_ | refine aP ?_ | refine .last ?_ | refine .last2 ?_ | refine zN fun k hk => ?_ | refine aR fun k hk => ?_ | refine mA ?_ | refine eL ?_ | refine eS ?_ | refine eLb ?_ | refine eSb ?_ | refine mB ?_ | refine mBb ?_ | refine pE ?_ | refine pZ ?_ | refine pC ?_ | refine pN ?_ | refine pN2 ?_ | refine mS (fun hc => ?_) (fun hc => ?_) | refine RetP.nrm ?_) <;> conv => whnf)
  · refine Fun.of (op_constraintlaw37_ProfileOf (by simp) ?_) rfl rfl
    conv => whnf
    conv => whnf
    repeat' ((first | refine cY ?_ | refine cN ?_ | refine .not ?_ | refine wI ?_ | refine .map ?_ | refine .nil ?_ | refine .one ?_ | refine .app ?_ | refine .set ?_ | refine .rep ?_ | refine .any ?_ | refine cI ?_ | refine cJ ?_ | refine cYa ?_ | refine cNa ?_ | refine cIa ?_ | refine cJa ?_ | refine cIr ?_ | refine cId ?_ | refine cJd ?_ | with_reducible refine CondN.and ?_ | with_reducible refine CondN.or ?_ | refine CondN.lt (fun hc => ?_) (fun hc => ?_) | refine CondN.le (fun hc => ?_) (fun hc => ?_) | refine CondN.dec (fun hc => ?_) (fun hc => ?_) | refine CondN.any (fun hc => ?_) (fun hc => ?_) | refine nS ?_ | refine iA ?_ | refine iB ?_ | refine iC fun x hx => ?_ | refine iD fun x hx => ?_ | refine iE ?_ | refine iF ?_ | refine iG ?_ | refine iH fun x hx => ?_ | refine iI fun x hx => ?_ | refine iJ ?_ | refine hB ?_ | refine aP ?_ | refine .last ?_ | refine .last2 ?_ | refine zN fun k hk => ?_ | refine aR fun k hk => ?_ | refine mA ?_ | refine eL ?_ | refine eS ?_ | refine eLb ?_ | refine eSb ?_ | refine mB ?_ | refine mBb ?_ | refine pE ?_ | refine pZ ?_ | refine pC ?_ | refine pN ?_ | refine pN2 ?_ | refine mS (fun hc => ?_) (fun hc => ?_) | refine RetP.nrm ?_) <;> conv => whnf)
set_option maxRecDepth 100000 in
theorem profileSplits_law {rules : Int} {a b : List Ev} : Fun Tryd.prog 4 [.int .i64 rules, slA Ev.av a, slA Ev.av b] (.bool true) := by
  have hL := live37_ok
  by_cases hl : a.length ≤ 300 ∧ b.length ≤ 300
  · have h0 := of_ok (rules := rules) (l := a ++ b) (by simp; omega)
    have h1 := of_ok (rules := rules) (l := a) (by omega)
    have h2 := of_ok (rules := rules) (l := b) (by omega)
    have hla := ofC_len rules a
    have hlb := ofC_len rules b
    have hlc := ofC_len rules (a ++ b)
    have h3 := add_ok (a := ofC rules a) (b := ofC rules b) (by omega) (by omega) (ofC_fit _ _ (by omega)) (ofC_fit _ _ (by omega))
    rw [addAV, ofC_split rules a b (by omega) (by omega)] at h3
    have h4 := same_ok (a := ofC rules (a ++ b)) (b := ofC rules (a ++ b)) (by omega) (by omega)
    simp only [decide_true] at h4
    have h5 := total_ok (c := ofC rules (a ++ b)) (by omega)
    have h6 := ofC_le rules (a ++ b)
    have h7 := totalC_b (ofC rules (a ++ b))
    have h8 : (ofC rules (a ++ b)).steps = (a.length + b.length : Int) := by simp [ofC]
    have h9 : 0 ≤ (ofC rules (a ++ b)).goals := by simp [ofC]; omega
    simp only [slA, List.map_append] at h0
    generalize ofC rules (a ++ b) = c at *
    generalize totalC c = t at *
    refine Fun.of (op_constraintlaw37_ProfileSplits (by simp) ?_) rfl rfl
    conv => whnf
    conv => whnf
    repeat' ((first | refine CallN.fn (hL) ?_ | refine CallP.fn (hL) ?_ | refine CallN.fn (h0) ?_ | refine CallP.fn (h0) ?_ | refine CallN.fn (h1) ?_ | refine CallP.fn (h1) ?_ | refine CallN.fn (h2) ?_ | refine CallP.fn (h2) ?_ | refine CallN.fn (h3) ?_ | refine CallP.fn (h3) ?_ | refine CallN.fn (h4) ?_ | refine CallP.fn (h4) ?_ | refine CallN.fn (h5) ?_ | refine CallP.fn (h5) ?_ | refine cY ?_ | refine cN ?_ | refine .not ?_ | refine wI ?_ | refine .map ?_ | refine .nil ?_ | refine .one ?_ | refine .app ?_ | refine .set ?_ | refine .rep ?_ | refine .any ?_ | refine cI ?_ | refine cJ ?_ | refine cYa ?_ | refine cNa ?_ | refine cIa ?_ | refine cJa ?_ | refine cIr ?_ | refine cId ?_ | refine cJd ?_ | with_reducible refine CondN.and ?_ | with_reducible refine CondN.or ?_ | refine CondN.lt (fun hc => ?_) (fun hc => ?_) | refine CondN.le (fun hc => ?_) (fun hc => ?_) | refine CondN.dec (fun hc => ?_) (fun hc => ?_) | refine CondN.any (fun hc => ?_) (fun hc => ?_) | refine nS ?_ | refine iA ?_ | refine iB ?_ | refine iC fun x hx => ?_ | refine iD fun x hx => ?_ | refine iE ?_ | refine iF ?_ | refine iG ?_ | refine iH fun x hx => ?_ | refine iI fun x hx => ?_ | refine iJ ?_ | refine hB ?_ | refine aP ?_ | refine .last ?_ | refine .last2 ?_ | refine zN fun k hk => ?_ | refine aR fun k hk => ?_ | refine mA ?_ | refine eL ?_ | refine eS ?_ | refine eLb ?_ | refine eSb ?_ | refine mB ?_ | refine mBb ?_ | refine pE ?_ | refine pZ ?_ | refine pC ?_ | refine pN ?_ | refine pN2 ?_ | refine mS (fun hc => ?_) (fun hc => ?_) | refine RetP.nrm ?_) <;> conv => whnf)
    rw [decide_eq_true h6]
  · refine Fun.of (op_constraintlaw37_ProfileSplits (by simp) ?_) rfl rfl
    conv => whnf
    conv => whnf
    repeat' ((first | refine CallN.fn (hL) ?_ | refine CallP.fn (hL) ?_ | refine cY ?_ | refine cN ?_ | refine .not ?_ | refine wI ?_ | refine .map ?_ | refine .nil ?_ | refine .one ?_ | refine .app ?_ | refine .set ?_ | refine .rep ?_ | refine .any ?_ | refine cI ?_ | refine cJ ?_ | refine cYa ?_ | refine cNa ?_ | refine cIa ?_ | refine cJa ?_ | refine cIr ?_ | refine cId ?_ | refine cJd ?_ | with_reducible refine CondN.and ?_ | with_reducible refine CondN.or ?_ | refine CondN.lt (fun hc => ?_) (fun hc => ?_) | refine CondN.le (fun hc => ?_) (fun hc => ?_) | refine CondN.dec (fun hc => ?_) (fun hc => ?_) | refine CondN.any (fun hc => ?_) (fun hc => ?_) | refine nS ?_ | refine iA ?_ | refine iB ?_ | refine iC fun x hx => ?_ | refine iD fun x hx => ?_ | refine iE ?_ | refine iF ?_ | refine iG ?_ | refine iH fun x hx => ?_ | refine iI fun x hx => ?_ | refine iJ ?_ | refine hB ?_ | refine aP ?_ | refine .last ?_ | refine .last2 ?_ | refine zN fun k hk => ?_ | refine aR fun k hk => ?_ | refine mA ?_ | refine eL ?_ | refine eS ?_ | refine eLb ?_ | refine eSb ?_ | refine mB ?_ | refine mBb ?_ | refine pE ?_ | refine pZ ?_ | refine pC ?_ | refine pN ?_ | refine pN2 ?_ | refine mS (fun hc => ?_) (fun hc => ?_) | refine RetP.nrm ?_) <;> conv => whnf)
/-- no more than 200 rules -/
def Ct.few (c : Ct) : Prop := c.rules.length ≤ 200
theorem great_no {c : Ct} (h : c.rules.length ≤ 200) : Fun Tryd.prog 16 [c.av] (.bool false) := by
  have := great_ok (c := c)
  rwa [decide_eq_false (by omega)] at this
theorem great_yes {c : Ct} (h : ¬ c.rules.length ≤ 200) : Fun Tryd.prog 16 [c.av] (.bool true) := by
  have := great_ok (c := c)
  rwa [decide_eq_true (by omega)] at this
theorem addC_len (a b : Ct) : (addC a b).1.rules.length ≤ a.rules.length := by
  unfold addC
  split
  · split
    · simp [sumL]; omega
    · simp [zeroC]
  · simp [zeroC]
set_option maxRecDepth 100000 in
theorem profileAdds_law {a b : Ct} (fa : a.fit) (fb : b.fit) : Fun Tryd.prog 5 [a.av, b.av] (.bool true) := by
  have hL := live37_ok
  by_cases ha : a.rules.length ≤ 200
  · by_cases hb : b.rules.length ≤ 200
    · have h1 := add_ok (a := a) (b := b) (by omega) (by omega) fa fb
      have h2 := refAdd_ok (a := a) (b := b) (by omega) (by omega) fa fb
      have hl := addC_len a b
      have h3 := refSame_ok (a := (addC a b).1) (b := (addC a b).1) (by omega) (by omega)
      simp only [decide_true] at h3
      rw [addAV] at h1 h2
      generalize (addC a b).1 = c at *
      generalize (addC a b).2 = e at *
      refine Fun.of (op_constraintlaw37_ProfileAdds (by simp) ?_) rfl rfl
      conv => whnf
      conv => whnf
      repeat' ((first | refine CallN.fn (great_no ha) ?_ | refine CallP.fn (great_no ha) ?_ | refine CallN.fn (great_no hb) ?_ | refine CallP.fn (great_no hb) ?_ | refine CallN.fn (h1) ?_ | refine CallP.fn (h1) ?_ | refine CallN.fn (h2) ?_ | refine CallP.fn (h2) ?_ | refine CallN.fn (h3) ?_ | refine CallP.fn (h3) ?_ | refine CallN.fn (hL) ?_ | refine CallP.fn (hL) ?_ | refine cY ?_ | refine cN ?_ | refine .not ?_ | refine wI ?_ | refine .map ?_ | refine .nil ?_ | refine .one ?_ | refine .app ?_ | refine .set ?_ | refine .rep ?_ | refine .any ?_ | refine cI ?_ | refine cJ ?_ | refine cYa ?_ | refine cNa ?_ | refine cIa ?_ | refine cJa ?_ | refine cIr ?_ | refine cId ?_ | refine cJd ?_ | with_reducible refine CondN.and ?_ | with_reducible refine CondN.or ?_ | refine CondN.lt (fun hc => ?_) (fun hc => ?_) | refine CondN.le (fun hc => ?_) (fun hc => ?_) | refine CondN.dec (fun hc => ?_) (fun hc => ?_) | refine CondN.any (fun hc => ?_) (fun hc => ?_) | refine nS ?_ | refine iA ?_ | refine iB ?_ | refine iC fun x hx => ?_ | refine iD fun x hx => ?_ | refine iE ?_ | refine iF ?_ | refine iG ?_ | refine iH fun x hx => ?_ | refine iI fun x hx => ?_ | refine iJ ?_ | refine hB ?_ | refine aP ?_ | refine .last ?_ | refine .last2 ?_ | refine zN fun k hk => ?_ | refine aR fun k hk => ?_ | refine mA ?_ | refine eL ?_ | refine eS ?_ | refine eLb ?_ | refine eSb ?_ | refine mB ?_ | refine mBb ?_ | refine pE ?_ | refine pZ ?_ | refine pC ?_ | refine pN ?_ | refine pN2 ?_ | refine mS (fun hc => ?_) (fun hc => ?_) | refine RetP.nrm ?_) <;> conv => whnf)
    · refine Fun.of (op_constraintlaw37_ProfileAdds (by simp) ?_) rfl rfl
      conv => whnf
      conv => whnf
      repeat' ((first | refine CallN.fn (great_no ha) ?_ | refine CallP.fn (great_no ha) ?_ | refine CallN.fn (great_yes hb) ?_ | refine CallP.fn (great_yes hb) ?_ | refine cY ?_ | refine cN ?_ | refine .not ?_ | refine wI ?_ | refine .map ?_ | refine .nil ?_ | refine .one ?_ | refine .app ?_ | refine .set ?_ | refine .rep ?_ | refine .any ?_ | refine cI ?_ | refine cJ ?_ | refine cYa ?_ | refine cNa ?_ | refine cIa ?_ | refine cJa ?_ | refine cIr ?_ | refine cId ?_ | refine cJd ?_ | with_reducible refine CondN.and ?_ | with_reducible refine CondN.or ?_ | refine CondN.lt (fun hc => ?_) (fun hc => ?_) | refine CondN.le (fun hc => ?_) (fun hc => ?_) | refine CondN.dec (fun hc => ?_) (fun hc => ?_) | refine CondN.any (fun hc => ?_) (fun hc => ?_) | refine nS ?_ | refine iA ?_ | refine iB ?_ | refine iC fun x hx => ?_ | refine iD fun x hx => ?_ | refine iE ?_ | refine iF ?_ | refine iG ?_ | refine iH fun x hx => ?_ | refine iI fun x hx => ?_ | refine iJ ?_ | refine hB ?_ | refine aP ?_ | refine .last ?_ | refine .last2 ?_ | refine zN fun k hk => ?_ | refine aR fun k hk => ?_ | refine mA ?_ | refine eL ?_ | refine eS ?_ | refine eLb ?_ | refine eSb ?_ | refine mB ?_ | refine mBb ?_ | refine pE ?_ | refine pZ ?_ | refine pC ?_ | refine pN ?_ | refine pN2 ?_ | refine mS (fun hc => ?_) (fun hc => ?_) | refine RetP.nrm ?_) <;> conv => whnf)
  · refine Fun.of (op_constraintlaw37_ProfileAdds (by simp) ?_) rfl rfl
    conv => whnf
    conv => whnf
    repeat' ((first | refine CallN.fn (great_yes ha) ?_ | refine CallP.fn (great_yes ha) ?_ | refine cY ?_ | refine cN ?_ | refine .not ?_ | refine wI ?_ | refine .map ?_ | refine .nil ?_ | refine .one ?_ | refine .app ?_ | refine .set ?_ | refine .rep ?_ | refine .any ?_ | refine cI ?_ | refine cJ ?_ | refine cYa ?_ | refine cNa ?_ | refine cIa ?_ | refine cJa ?_ | refine cIr ?_ | refine cId ?_ | refine cJd ?_ | with_reducible refine CondN.and ?_ | with_reducible refine CondN.or ?_ | refine CondN.lt (fun hc => ?_) (fun hc => ?_) | refine CondN.le (fun hc => ?_) (fun hc => ?_) | refine CondN.dec (fun hc => ?_) (fun hc => ?_) | refine CondN.any (fun hc => ?_) (fun hc => ?_) | refine nS ?_ | refine iA ?_ | refine iB ?_ | refine iC fun x hx => ?_ | refine iD fun x hx => ?_ | refine iE ?_ | refine iF ?_ | refine iG ?_ | refine iH fun x hx => ?_ | refine iI fun x hx => ?_ | refine iJ ?_ | refine hB ?_ | refine aP ?_ | refine .last ?_ | refine .last2 ?_ | refine zN fun k hk => ?_ | refine aR fun k hk => ?_ | refine mA ?_ | refine eL ?_ | refine eS ?_ | refine eLb ?_ | refine eSb ?_ | refine mB ?_ | refine mBb ?_ | refine pE ?_ | refine pZ ?_ | refine pC ?_ | refine pN ?_ | refine pN2 ?_ | refine mS (fun hc => ?_) (fun hc => ?_) | refine RetP.nrm ?_) <;> conv => whnf)
set_option maxRecDepth 100000 in
theorem profileSame_law {a b : Ct} : Fun Tryd.prog 7 [a.av, b.av] (.bool true) := by
  have hL := live37_ok
  by_cases ha : a.rules.length ≤ 200
  · by_cases hb : b.rules.length ≤ 200
    · have h1 := same_ok (a := a) (b := b) (by omega) (by omega)
      have h2 := refSame_ok (a := a) (b := b) (by omega) (by omega)
      have h3 := same_ok (a := a) (b := a) (by omega) (by omega)
      simp only [decide_true] at h3
      have h4 := total_ok (c := a) (by omega)
      have h5 := refTotal_ok (c := a) (by omega)
      generalize decide (nums a = nums b) = q at *
      generalize totalC a = t at *
      refine Fun.of (op_constraintlaw37_ProfileSame (by simp) ?_) rfl rfl
      conv => whnf
      conv => whnf
      repeat' ((first | refine CallN.fn (great_no ha) ?_ | refine CallP.fn (great_no ha) ?_ | refine CallN.fn (great_no hb) ?_ | refine CallP.fn (great_no hb) ?_ | refine CallN.fn (h3) ?_ | refine CallP.fn (h3) ?_ | refine CallN.fn (h1) ?_ | refine CallP.fn (h1) ?_ | refine CallN.fn (h2) ?_ | refine CallP.fn (h2) ?_ | refine CallN.fn (h4) ?_ | refine CallP.fn (h4) ?_ | refine CallN.fn (h5) ?_ | refine CallP.fn (h5) ?_ | refine CallN.fn (hL) ?_ | refine CallP.fn (hL) ?_ | refine cY ?_ | refine cN ?_ | refine .not ?_ | refine wI ?_ | refine .map ?_ | refine .nil ?_ | refine .one ?_ | refine .app ?_ | refine .set ?_ | refine .rep ?_ | refine .any ?_ | refine cI ?_ | refine cJ ?_ | refine cYa ?_ | refine cNa ?_ | refine cIa ?_ | refine cJa ?_ | refine cIr ?_ | refine cId ?_ | refine cJd ?_ | with_reducible refine CondN.and ?_ | with_reducible refine CondN.or ?_ | refine CondN.lt (fun hc => ?_) (fun hc => ?_) | refine CondN.le (fun hc => ?_) (fun hc => ?_) | refine CondN.dec (fun hc => ?_) (fun hc => ?_) | refine CondN.any (fun hc => ?_) (fun hc => ?_) | refine nS ?_ | refine iA ?_ | refine iB ?_ | refine iC fun x hx => ?_ | refine iD fun x hx => ?_ | refine iE ?_ | refine iF ?_ | refine iG ?_ | refine iH fun x hx => ?_ | refine iI fun x hx => ?_ | refine iJ ?_ | refine hB ?_ | refine aP ?_ | refine .last ?_ | refine .last2 ?_ | refine zN fun k hk => ?_ | refine aR fun k hk => ?_ | refine mA ?_ | refine eL ?_ | refine eS ?_ | refine eLb ?_ | refine eSb ?_ | refine mB ?_ | refine mBb ?_ | refine pE ?_ | refine pZ ?_ | refine pC ?_ | refine pN ?_ | refine pN2 ?_ | refine mS (fun hc => ?_) (fun hc => ?_) | refine RetP.nrm ?_) <;> conv => whnf)
    · refine Fun.of (op_constraintlaw37_ProfileSame (by simp) ?_) rfl rfl
      conv => whnf
      conv => whnf
      repeat' ((first | refine CallN.fn (great_no ha) ?_ | refine CallP.fn (great_no ha) ?_ | refine CallN.fn (great_yes hb) ?_ | refine CallP.fn (great_yes hb) ?_ | refine cY ?_ | refine cN ?_ | refine .not ?_ | refine wI ?_ | refine .map ?_ | refine .nil ?_ | refine .one ?_ | refine .app ?_ | refine .set ?_ | refine .rep ?_ | refine .any ?_ | refine cI ?_ | refine cJ ?_ | refine cYa ?_ | refine cNa ?_ | refine cIa ?_ | refine cJa ?_ | refine cIr ?_ | refine cId ?_ | refine cJd ?_ | with_reducible refine CondN.and ?_ | with_reducible refine CondN.or ?_ | refine CondN.lt (fun hc => ?_) (fun hc => ?_) | refine CondN.le (fun hc => ?_) (fun hc => ?_) | refine CondN.dec (fun hc => ?_) (fun hc => ?_) | refine CondN.any (fun hc => ?_) (fun hc => ?_) | refine nS ?_ | refine iA ?_ | refine iB ?_ | refine iC fun x hx => ?_ | refine iD fun x hx => ?_ | refine iE ?_ | refine iF ?_ | refine iG ?_ | refine iH fun x hx => ?_ | refine iI fun x hx => ?_ | refine iJ ?_ | refine hB ?_ | refine aP ?_ | refine .last ?_ | refine .last2 ?_ | refine zN fun k hk => ?_ | refine aR fun k hk => ?_ | refine mA ?_ | refine eL ?_ | refine eS ?_ | refine eLb ?_ | refine eSb ?_ | refine mB ?_ | refine mBb ?_ | refine pE ?_ | refine pZ ?_ | refine pC ?_ | refine pN ?_ | refine pN2 ?_ | refine mS (fun hc => ?_) (fun hc => ?_) | refine RetP.nrm ?_) <;> conv => whnf)
  · refine Fun.of (op_constraintlaw37_ProfileSame (by simp) ?_) rfl rfl
    conv => whnf
    conv => whnf
    repeat' ((first | refine CallN.fn (great_yes ha) ?_ | refine CallP.fn (great_yes ha) ?_ | refine cY ?_ | refine cN ?_ | refine .not ?_ | refine wI ?_ | refine .map ?_ | refine .nil ?_ | refine .one ?_ | refine .app ?_ | refine .set ?_ | refine .rep ?_ | refine .any ?_ | refine cI ?_ | refine cJ ?_ | refine cYa ?_ | refine cNa ?_ | refine cIa ?_ | refine cJa ?_ | refine cIr ?_ | refine cId ?_ | refine cJd ?_ | with_reducible refine CondN.and ?_ | with_reducible refine CondN.or ?_ | refine CondN.lt (fun hc => ?_) (fun hc => ?_) | refine CondN.le (fun hc => ?_) (fun hc => ?_) | refine CondN.dec (fun hc => ?_) (fun hc => ?_) | refine CondN.any (fun hc => ?_) (fun hc => ?_) | refine nS ?_ | refine iA ?_ | refine iB ?_ | refine iC fun x hx => ?_ | refine iD fun x hx => ?_ | refine iE ?_ | refine iF ?_ | refine iG ?_ | refine iH fun x hx => ?_ | refine iI fun x hx => ?_ | refine iJ ?_ | refine hB ?_ | refine aP ?_ | refine .last ?_ | refine .last2 ?_ | refine zN fun k hk => ?_ | refine aR fun k hk => ?_ | refine mA ?_ | refine eL ?_ | refine eS ?_ | refine eLb ?_ | refine eSb ?_ | refine mB ?_ | refine mBb ?_ | refine pE ?_ | refine pZ ?_ | refine pC ?_ | refine pN ?_ | refine pN2 ?_ | refine mS (fun hc => ?_) (fun hc => ?_) | refine RetP.nrm ?_) <;> conv => whnf)
theorem zeros_av (n : Nat) : (zerosC n).av = .agg [.sl .no (List.replicate n (.int .i64 0)), .int .i64 0, .int .i64 0, .int .i64 0] := by simp [zerosC, Ct.av]
set_option maxRecDepth 100000 in
theorem profileSums_law {a b : Ct} (fa : a.fit) (fb : b.fit) : Fun Tryd.prog 6 [a.av, b.av] (.bool true) := by
  have hL := live37_ok
  by_cases ha : a.rules.length ≤ 200
  · by_cases hb : b.rules.length ≤ 200
    · have h1 := add_ok (a := a) (b := b) (by omega) (by omega) fa fb
      have h2 := add_ok (a := b) (b := a) (by omega) (by omega) fb fa
      have hz : (zerosC a.rules.length).fit := fun x hx => by
        rw [nums_zeros] at hx
        rw [(List.mem_replicate.1 hx).2]; omega
      have h3 := add_ok (a := a) (b := zerosC a.rules.length) (by omega) (by simp [zerosC]; omega) fa hz
      rw [zeros_av] at h3
      have hl := addC_len a b
      have hlz := addC_len a (zerosC a.rules.length)
      have h4 := same_ok (a := (addC a b).1) (b := (addC a b).1) (by omega) (by omega)
      simp only [decide_true] at h4
      have h5 := same_ok (a := (addC a (zerosC a.rules.length)).1) (b := a) (by omega) (by omega)
      have h6 := right_ok (c := a) (by omega)
      have h7 := total_ok (c := a) (by omega)
      have h8 := total_ok (c := b) (by omega)
      have h9 := total_ok (c := (addC a b).1) (by omega)
      have q1 := addC_zeros (a := a) (fun x hx => (fa x hx).2)
      have q2 := addC_total (a := a) (b := b)
      have q3 := addC_bad (a := a) (b := b)
      rw [addAV] at h1 h2 h3
      rw [addC_comm b a] at h2
      have hm : maxI = 9223372036854775807 := rfl
      have t1 := totalC_b a
      have t2 := totalC_b b
      have last : ∀ c : Ct, c.rules.length ≤ 200 → c.rules = [] → ((c.rules.length : Int) = 0) := fun c _ h => by rw [h]; rfl
      cases hok : okC a with
      | true =>
        rw [hok] at h6
        have z0 := q1.1.2 hok
        have z1 := q1.2 z0
        rw [z0] at h3
        rw [decide_eq_true z1] at h5
        by_cases he : (addC a b).2 = 0
        · have q2 := q2 he
          rw [he] at h1 h2
          refine Fun.of (op_constraintlaw37_ProfileSums (by simp) ?_) rfl rfl
          conv => whnf
          conv => whnf
          repeat' ((first | refine CallN.fn (hL) ?_ | refine CallP.fn (hL) ?_ | refine CallN.fn (great_no ha) ?_ | refine CallP.fn (great_no ha) ?_ | refine CallN.fn (great_no hb) ?_ | refine CallP.fn (great_no hb) ?_ | refine CallN.fn (h1) ?_ | refine CallP.fn (h1) ?_ | refine CallN.fn (h2) ?_ | refine CallP.fn (h2) ?_ | refine CallN.fn (h4) ?_ | refine CallP.fn (h4) ?_ | refine CallN.fn (h3) ?_ | refine CallP.fn (h3) ?_ | refine CallN.fn (h5) ?_ | refine CallP.fn (h5) ?_ | refine CallN.fn (h6) ?_ | refine CallP.fn (h6) ?_ | refine CallN.fn (h7) ?_ | refine CallP.fn (h7) ?_ | refine CallN.fn (h8) ?_ | refine CallP.fn (h8) ?_ | refine CallN.fn (h9) ?_ | refine CallP.fn (h9) ?_ | refine cY ?_ | refine cN ?_ | refine .not ?_ | refine wI ?_ | refine .map ?_ | refine .nil ?_ | refine .one ?_ | refine .app ?_ | refine .set ?_ | refine .rep ?_ | refine .any ?_ | refine cI ?_ | refine cJ ?_ | refine cYa ?_ | refine cNa ?_ | refine cIa ?_ | refine cJa ?_ | refine cIr ?_ | refine cId ?_ | refine cJd ?_ | with_reducible refine CondN.and ?_ | with_reducible refine CondN.or ?_ | refine CondN.lt (fun hc => ?_) (fun hc => ?_) | refine CondN.le (fun hc => ?_) (fun hc => ?_) | refine CondN.dec (fun hc => ?_) (fun hc => ?_) | refine CondN.any (fun hc => ?_) (fun hc => ?_) | refine nS ?_ | refine iA ?_ | refine iB ?_ | refine iC fun x hx => ?_ | refine iD fun x hx => ?_ | refine iE ?_ | refine iF ?_ | refine iG ?_ | refine iH fun x hx => ?_ | refine iI fun x hx => ?_ | refine iJ ?_ | refine hB ?_ | refine aP ?_ | refine .last ?_ | refine .last2 ?_ | refine zN fun k hk => ?_ | refine aR fun k hk => ?_ | refine mA ?_ | refine eL ?_ | refine eS ?_ | refine eLb ?_ | refine eSb ?_ | refine mB ?_ | refine mBb ?_ | refine pE ?_ | refine pZ ?_ | refine pC ?_ | refine pN ?_ | refine pN2 ?_ | refine mS (fun hc => ?_) (fun hc => ?_) | refine RetP.nrm ?_) <;> conv => whnf)
          rw [decide_eq_true (q2 (by assumption) (by assumption))]
        · have q3 := q3 he
          have hz0 : ((addC a b).1.rules.length : Int) = 0 := by rw [q3]; rfl
          refine Fun.of (op_constraintlaw37_ProfileSums (by simp) ?_) rfl rfl
          conv => whnf
          conv => whnf
          repeat' ((first | refine CallN.fn (hL) ?_ | refine CallP.fn (hL) ?_ | refine CallN.fn (great_no ha) ?_ | refine CallP.fn (great_no ha) ?_ | refine CallN.fn (great_no hb) ?_ | refine CallP.fn (great_no hb) ?_ | refine CallN.fn (h1) ?_ | refine CallP.fn (h1) ?_ | refine CallN.fn (h2) ?_ | refine CallP.fn (h2) ?_ | refine CallN.fn (h4) ?_ | refine CallP.fn (h4) ?_ | refine CallN.fn (h3) ?_ | refine CallP.fn (h3) ?_ | refine CallN.fn (h5) ?_ | refine CallP.fn (h5) ?_ | refine CallN.fn (h6) ?_ | refine CallP.fn (h6) ?_ | refine CallN.fn (h7) ?_ | refine CallP.fn (h7) ?_ | refine CallN.fn (h8) ?_ | refine CallP.fn (h8) ?_ | refine CallN.fn (h9) ?_ | refine CallP.fn (h9) ?_ | refine cY ?_ | refine cN ?_ | refine .not ?_ | refine wI ?_ | refine .map ?_ | refine .nil ?_ | refine .one ?_ | refine .app ?_ | refine .set ?_ | refine .rep ?_ | refine .any ?_ | refine cI ?_ | refine cJ ?_ | refine cYa ?_ | refine cNa ?_ | refine cIa ?_ | refine cJa ?_ | refine cIr ?_ | refine cId ?_ | refine cJd ?_ | with_reducible refine CondN.and ?_ | with_reducible refine CondN.or ?_ | refine CondN.lt (fun hc => ?_) (fun hc => ?_) | refine CondN.le (fun hc => ?_) (fun hc => ?_) | refine CondN.dec (fun hc => ?_) (fun hc => ?_) | refine CondN.any (fun hc => ?_) (fun hc => ?_) | refine nS ?_ | refine iA ?_ | refine iB ?_ | refine iC fun x hx => ?_ | refine iD fun x hx => ?_ | refine iE ?_ | refine iF ?_ | refine iG ?_ | refine iH fun x hx => ?_ | refine iI fun x hx => ?_ | refine iJ ?_ | refine hB ?_ | refine aP ?_ | refine .last ?_ | refine .last2 ?_ | refine zN fun k hk => ?_ | refine aR fun k hk => ?_ | refine mA ?_ | refine eL ?_ | refine eS ?_ | refine eLb ?_ | refine eSb ?_ | refine mB ?_ | refine mBb ?_ | refine pE ?_ | refine pZ ?_ | refine pC ?_ | refine pN ?_ | refine pN2 ?_ | refine mS (fun hc => ?_) (fun hc => ?_) | refine RetP.nrm ?_) <;> conv => whnf)
          rw [decide_eq_true hz0]
      | false =>
        rw [hok] at h6
        have z0 : ¬ (addC a (zerosC a.rules.length)).2 = 0 := fun e => by rw [q1.1.1 e] at hok; cases hok
        have he : ¬ (addC a b).2 = 0 := fun e => by rw [(addC_nums e).2.1.1] at hok; cases hok
        have q3 := q3 he
        have hz0 : ((addC a b).1.rules.length : Int) = 0 := by rw [q3]; rfl
        refine Fun.of (op_constraintlaw37_ProfileSums (by simp) ?_) rfl rfl
        conv => whnf
        conv => whnf
        repeat' ((first | refine CallN.fn (hL) ?_ | refine CallP.fn (hL) ?_ | refine CallN.fn (great_no ha) ?_ | refine CallP.fn (great_no ha) ?_ | refine CallN.fn (great_no hb) ?_ | refine CallP.fn (great_no hb) ?_ | refine CallN.fn (h1) ?_ | refine CallP.fn (h1) ?_ | refine CallN.fn (h2) ?_ | refine CallP.fn (h2) ?_ | refine CallN.fn (h4) ?_ | refine CallP.fn (h4) ?_ | refine CallN.fn (h3) ?_ | refine CallP.fn (h3) ?_ | refine CallN.fn (h5) ?_ | refine CallP.fn (h5) ?_ | refine CallN.fn (h6) ?_ | refine CallP.fn (h6) ?_ | refine CallN.fn (h7) ?_ | refine CallP.fn (h7) ?_ | refine CallN.fn (h8) ?_ | refine CallP.fn (h8) ?_ | refine CallN.fn (h9) ?_ | refine CallP.fn (h9) ?_ | refine cY ?_ | refine cN ?_ | refine .not ?_ | refine wI ?_ | refine .map ?_ | refine .nil ?_ | refine .one ?_ | refine .app ?_ | refine .set ?_ | refine .rep ?_ | refine .any ?_ | refine cI ?_ | refine cJ ?_ | refine cYa ?_ | refine cNa ?_ | refine cIa ?_ | refine cJa ?_ | refine cIr ?_ | refine cId ?_ | refine cJd ?_ | with_reducible refine CondN.and ?_ | with_reducible refine CondN.or ?_ | refine CondN.lt (fun hc => ?_) (fun hc => ?_) | refine CondN.le (fun hc => ?_) (fun hc => ?_) | refine CondN.dec (fun hc => ?_) (fun hc => ?_) | refine CondN.any (fun hc => ?_) (fun hc => ?_) | refine nS ?_ | refine iA ?_ | refine iB ?_ | refine iC fun x hx => ?_ | refine iD fun x hx => ?_ | refine iE ?_ | refine iF ?_ | refine iG ?_ | refine iH fun x hx => ?_ | refine iI fun x hx => ?_ | refine iJ ?_ | refine hB ?_ | refine aP ?_ | refine .last ?_ | refine .last2 ?_ | refine zN fun k hk => ?_ | refine aR fun k hk => ?_ | refine mA ?_ | refine eL ?_ | refine eS ?_ | refine eLb ?_ | refine eSb ?_ | refine mB ?_ | refine mBb ?_ | refine pE ?_ | refine pZ ?_ | refine pC ?_ | refine pN ?_ | refine pN2 ?_ | refine mS (fun hc => ?_) (fun hc => ?_) | refine RetP.nrm ?_) <;> conv => whnf)
        · rw [decide_eq_true hz0]
        · exact absurd (decide_eq_false z0) (by assumption)
    · refine Fun.of (op_constraintlaw37_ProfileSums (by simp) ?_) rfl rfl
      conv => whnf
      conv => whnf
      repeat' ((first | refine CallN.fn (hL) ?_ | refine CallP.fn (hL) ?_ | refine CallN.fn (great_no ha) ?_ | refine CallP.fn (great_no ha) ?_ | refine CallN.fn (great_yes hb) ?_ | refine CallP.fn (great_yes hb) ?_ | refine cY ?_ | refine cN ?_ | refine .not ?_ | refine wI ?_ | refine .map ?_ | refine .nil ?_ | refine .one ?_ | refine .app ?_ | refine .set ?_ | refine .rep ?_ | refine .any ?_ | refine cI ?_ | refine cJ ?_ | refine cYa ?_ | refine cNa ?_ | refine cIa ?_ | refine cJa ?_ | refine cIr ?_ | refine cId ?_ | refine cJd ?_ | with_reducible refine CondN.and ?_ | with_reducible refine CondN.or ?_ | refine CondN.lt (fun hc => ?_) (fun hc => ?_) | refine CondN.le (fun hc => ?_) (fun hc => ?_) | refine CondN.dec (fun hc => ?_) (fun hc => ?_) | refine CondN.any (fun hc => ?_) (fun hc => ?_) | refine nS ?_ | refine iA ?_ | refine iB ?_ | refine iC fun x hx => ?_ | refine iD fun x hx => ?_ | refine iE ?_ | refine iF ?_ | refine iG ?_ | refine iH fun x hx => ?_ | refine iI fun x hx => ?_ | refine iJ ?_ | refine hB ?_ | refine aP ?_ | refine .last ?_ | refine .last2 ?_ | refine zN fun k hk => ?_ | refine aR fun k hk => ?_ | refine mA ?_ | refine eL ?_ | refine eS ?_ | refine eLb ?_ | refine eSb ?_ | refine mB ?_ | refine mBb ?_ | refine pE ?_ | refine pZ ?_ | refine pC ?_ | refine pN ?_ | refine pN2 ?_ | refine mS (fun hc => ?_) (fun hc => ?_) | refine RetP.nrm ?_) <;> conv => whnf)
  · refine Fun.of (op_constraintlaw37_ProfileSums (by simp) ?_) rfl rfl
    conv => whnf
    conv => whnf
    repeat' ((first | refine CallN.fn (hL) ?_ | refine CallP.fn (hL) ?_ | refine CallN.fn (great_yes ha) ?_ | refine CallP.fn (great_yes ha) ?_ | refine cY ?_ | refine cN ?_ | refine .not ?_ | refine wI ?_ | refine .map ?_ | refine .nil ?_ | refine .one ?_ | refine .app ?_ | refine .set ?_ | refine .rep ?_ | refine .any ?_ | refine cI ?_ | refine cJ ?_ | refine cYa ?_ | refine cNa ?_ | refine cIa ?_ | refine cJa ?_ | refine cIr ?_ | refine cId ?_ | refine cJd ?_ | with_reducible refine CondN.and ?_ | with_reducible refine CondN.or ?_ | refine CondN.lt (fun hc => ?_) (fun hc => ?_) | refine CondN.le (fun hc => ?_) (fun hc => ?_) | refine CondN.dec (fun hc => ?_) (fun hc => ?_) | refine CondN.any (fun hc => ?_) (fun hc => ?_) | refine nS ?_ | refine iA ?_ | refine iB ?_ | refine iC fun x hx => ?_ | refine iD fun x hx => ?_ | refine iE ?_ | refine iF ?_ | refine iG ?_ | refine iH fun x hx => ?_ | refine iI fun x hx => ?_ | refine iJ ?_ | refine hB ?_ | refine aP ?_ | refine .last ?_ | refine .last2 ?_ | refine zN fun k hk => ?_ | refine aR fun k hk => ?_ | refine mA ?_ | refine eL ?_ | refine eS ?_ | refine eLb ?_ | refine eSb ?_ | refine mB ?_ | refine mBb ?_ | refine pE ?_ | refine pZ ?_ | refine pC ?_ | refine pN ?_ | refine pN2 ?_ | refine mS (fun hc => ?_) (fun hc => ?_) | refine RetP.nrm ?_) <;> conv => whnf)
/-- what is read as counts lies within int -/
theorem RCt.fit {H : Hp} {c : List Value} {x : Ct} (h : RCt H c x) : x.fit := fun n hn => by
  obtain ⟨a1, k1, rfl, hk1, hsl, i1, i2, i3⟩ := h
  simp only [nums, List.mem_append, List.mem_cons, List.not_mem_nil, or_false] at hn
  rcases hn with hn | rfl | rfl | rfl
  · obtain ⟨i, hi, rfl⟩ := List.mem_iff_getElem.1 hn
    obtain ⟨b, o, cs, _, _, _, hr⟩ := hsl.at_ i hi
    exact hr.2
  · exact i1
  · exact i2
  · exact i3
end Go.CK
