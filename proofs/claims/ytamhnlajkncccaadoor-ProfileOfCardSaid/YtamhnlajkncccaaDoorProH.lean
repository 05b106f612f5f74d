/-
  PROFILE, in the abstract machine: the functions' contracts, 5: the reference counts events. By an AI agent.
-/
import Derived.Test.YtamhnlajkncccaaDoorProG
set_option linter.unusedSimpArgs false
set_option linter.unusedVariables false
namespace Go.CK
open Go.AM Go.Proofs
theorem cntR_succ (n : Nat) (l : List Ev) : cntR (n + 1) l = cntR n l ++ [((l.countP (evRule n) : Nat) : Int)] := by simp [cntR, List.range_succ]
def ruleC (r : Nat) (l : List Ev) : Int := (l.countP (evRule r) : Nat)
theorem ruleC_yes {r : Nat} {l : List Ev} {e : Ev} (h : evRule r e = true) : ruleC r (l ++ [e]) = ruleC r l + 1 := by simp [ruleC, List.countP_append, h]
theorem ruleC_no {r : Nat} {l : List Ev} {e : Ev} (h : ¬ evRule r e = true) : ruleC r (l ++ [e]) = ruleC r l := by simp [ruleC, List.countP_append, h]
theorem ruleC_le (r : Nat) (l : List Ev) : 0 ≤ ruleC r l ∧ ruleC r l ≤ l.length := by
  have := List.countP_le_length (p := evRule r) (l := l)
  simp only [ruleC]; omega
def zeroBox : Box := .cells [.sl .full [], .int .i64 0, .int .i64 0, .int .i64 0]
set_option maxHeartbeats 2000000 in
set_option maxRecDepth 100000 in
theorem refOf_ok {rules : Int} {l : List Ev} (hl : l.length ≤ 1000) : Fun Tryd.prog 11 [.int .i64 rules, slA Ev.av l] (ofC rules l).av := by
  obtain ⟨n, hn⟩ : ∃ n, n = ruleN rules := ⟨_, rfl⟩
  obtain ⟨m, hme⟩ : ∃ m, m = min (max rules 0) 40 := ⟨_, rfl⟩
  have hm : 0 ≤ m ∧ m ≤ 40 ∧ m = n := ⟨by omega, by omega, by rw [hn, ruleN, ← hme]; omega⟩
  refine Fun.of (op_constraintref37_Of (by simp) ?_) rfl rfl
  conv => whnf
  conv => whnf
  repeat' ((first | refine cY ?_ | refine cN ?_ | refine .not ?_ | refine wI ?_ | refine .map ?_ | refine .nil ?_ | refine .one ?_ | refine .app ?_ | refine .set ?_ | refine .rep ?_ | refine .any ?_ | refine cI ?_ | refine cJ ?_ | refine cYa ?_ | refine cNa ?_ | refine cIa ?_ | refine cJa ?_ | refine cIr ?_ | refine cId ?_ | refine cJd ?_ | with_reducible refine CondN.and ?_ | with_reducible refine CondN.or ?_ | refine CondN.lt (fun hc => ?_) (fun hc => ?_) | refine CondN.le (fun hc => ?_) (fun hc => ?_) | refine CondN.dec (fun hc => ?_) (fun hc => ?_) | refine CondN.any (fun hc => ?_) (fun hc => ?_) | refine nS ?_ | refine iA ?_ | refine iB ?_ | refine iC fun x hx => ?_ | refine iD fun x hx => ?_ | refine iE ?_ | refine iF ?_ | refine iG ?_ | refine iH fun x hx => ?_ | refine iI fun x hx => ?_ | refine iJ ?_ | refine hB ?_ | refine aP ?_ | refine .last ?_ | refine .last2 ?_ | refine zN fun k hk => ?_ | refine aR fun k hk => ?_ | refine mA ?_ | refine eL ?_ | refine eS ?_ | refine eLb ?_ | refine eSb ?_ | refine mB ?_ | refine mBb ?_ | refine pE ?_ | refine pZ ?_ | refine pC ?_ | refine pN ?_ | refine pN2 ?_ | refine mS (fun hc => ?_) (fun hc => ?_) | refine RetP.nrm ?_) <;> conv => whnf)
  rw [← hme]
  refine LoopP.count (fb := true) n (fun st_ j => ⟨(st_.sets [(6, .int .i64 j)]).env, [zeroBox, .cells [.sl (.own 1) ((cntR j l).map intA), .int .i64 0, .int .i64 0, .int .i64 0]], 0⟩) (fun _ => True) trivial ?_ (fun j hj _ => ?_) (fun _ => ?_)
  · refine EndN.claimB 1 0 1 rfl (by simp) ?_
    refine EndN.at_ ?_ rfl
    conv => whnf
    refine And.intro ?_ ?_ <;> conv => whnf
    all_goals repeat' ((first | refine vE ?_ | refine vI ?_ | refine vB ?_ | refine vC ?_ | refine vN ?_ | refine xB ?_ | exact True.intro | ((first | refine WkN.sl ?_ ?_ | refine vD ?_ ?_ | refine WkN.norm ?_ ?_ | refine BxN.mk ?_ ?_); (focus (simp [AV.norm, AV.norm1, cntR]; done)))) <;> conv => whnf)
  · conv => whnf
    repeat' ((first | refine cY ?_ | refine cN ?_ | refine .not ?_ | refine wI ?_ | refine .map ?_ | refine .nil ?_ | refine .one ?_ | refine .app ?_ | refine .set ?_ | refine .rep ?_ | refine .any ?_ | refine cI ?_ | refine cJ ?_ | refine cYa ?_ | refine cNa ?_ | refine cIa ?_ | refine cJa ?_ | refine cIr ?_ | refine cId ?_ | refine cJd ?_ | with_reducible refine CondN.and ?_ | with_reducible refine CondN.or ?_ | refine CondN.lt (fun hc => ?_) (fun hc => ?_) | refine CondN.le (fun hc => ?_) (fun hc => ?_) | refine CondN.dec (fun hc => ?_) (fun hc => ?_) | refine CondN.any (fun hc => ?_) (fun hc => ?_) | refine nS ?_ | refine iA ?_ | refine iB ?_ | refine iC fun x hx => ?_ | refine iD fun x hx => ?_ | refine iE ?_ | refine iF ?_ | refine iG ?_ | refine iH fun x hx => ?_ | refine iI fun x hx => ?_ | refine iJ ?_ | refine hB ?_ | refine aP ?_ | refine .last ?_ | refine .last2 ?_ | refine zN fun k hk => ?_ | refine aR fun k hk => ?_ | refine mA ?_ | refine eL ?_ | refine eS ?_ | refine eLb ?_ | refine eSb ?_ | refine mB ?_ | refine mBb ?_ | refine pE ?_ | refine pZ ?_ | refine pC ?_ | refine pN ?_ | refine pN2 ?_ | refine mS (fun hc => ?_) (fun hc => ?_)) <;> conv => whnf)
    refine LoopP.count (fb := true) l.length (fun st_ i => st_.sets [(7, .int .i64 (ruleC j (l.take i))), (8, .int .i64 i)]) (fun _ => True) trivial ?_ (fun i hi _ => ?_) (fun _ => ?_)
    · refine EndN.at_ ?_ rfl
      conv => whnf
      refine And.intro ?_ ?_ <;> conv => whnf
      all_goals repeat' ((first | refine vE ?_ | refine vI ?_ | refine vB ?_ | refine vC ?_ | refine vN ?_ | refine xB ?_ | exact True.intro | ((first | refine WkN.sl ?_ ?_ | refine vD ?_ ?_ | refine WkN.norm ?_ ?_ | refine BxN.mk ?_ ?_); (focus (simp [AV.norm, AV.norm1, ruleC]; done)))) <;> conv => whnf)
    · obtain ⟨e, he⟩ : ∃ e, l[i]? = some e := ⟨_, List.getElem?_eq_getElem hi⟩
      have hs := take_snoc he
      have hg := ruleC_le j (l.take i)
      have hgl : (l.take i).length = i := by simp; omega
      by_cases hr : evRule j e = true
      · have h4 := ruleC_yes (l := l.take i) hr
        rw [← hs] at h4
        have hk : (e.kind = 4 ∨ e.kind = 5) ∧ e.rule = j := by simpa [evRule, evApp] using hr
        generalize ruleC j (l.take i) = g at *
        generalize ruleC j (l.take (i + 1)) = g1 at *
        conv => whnf
        repeat' ((first | refine cY ?_ | refine cN ?_ | refine .not ?_ | refine wI ?_ | refine .map ?_ | refine .nil ?_ | refine .one ?_ | refine .app ?_ | refine .set ?_ | refine .rep ?_ | refine .any ?_ | refine cI ?_ | refine cJ ?_ | refine cYa ?_ | refine cNa ?_ | refine cIa ?_ | refine cJa ?_ | refine cIr ?_ | refine cId ?_ | refine cJd ?_ | with_reducible refine CondN.and ?_ | with_reducible refine CondN.or ?_ | refine CondN.lt (fun hc => ?_) (fun hc => ?_) | refine CondN.le (fun hc => ?_) (fun hc => ?_) | refine CondN.dec (fun hc => ?_) (fun hc => ?_) | refine CondN.any (fun hc => ?_) (fun hc => ?_) | refine nS ?_ | refine iA ?_ | refine iB ?_ | refine iC fun x hx => ?_ | refine iD fun x hx => ?_ | refine iE ?_ | refine iF ?_ | refine iG ?_ | refine iH fun x hx => ?_ | refine iI fun x hx => ?_ | refine iJ ?_ | refine hB ?_ | refine aP ?_ | refine .last ?_ | refine .last2 ?_ | refine zN fun k hk => ?_ | refine aR fun k hk => ?_ | refine mA ?_ | refine eL ?_ | refine eS ?_ | refine eLb ?_ | refine eSb ?_ | refine mB ?_ | refine mBb ?_ | refine pE ?_ | refine pZ ?_ | refine pC ?_ | refine pN ?_ | refine pN2 ?_ | refine mS (fun hc => ?_) (fun hc => ?_)) <;> conv => whnf)
        all_goals first | (exfalso; omega) | skip
        all_goals refine ⟨trivial, ?_⟩
        · refine EndN.at_ ?_ rfl
          conv => whnf
          refine And.intro ?_ ?_ <;> conv => whnf
          all_goals repeat' ((first | refine vE ?_ | refine vI ?_ | refine vB ?_ | refine vC ?_ | refine vN ?_ | refine xB ?_ | exact True.intro | ((first | refine WkN.sl ?_ ?_ | refine vD ?_ ?_ | refine WkN.norm ?_ ?_ | refine BxN.mk ?_ ?_); (focus (simp [AV.norm, AV.norm1, ]; done)))) <;> conv => whnf)
        · refine EndN.at_ ?_ rfl
          conv => whnf
          refine And.intro ?_ ?_ <;> conv => whnf
          all_goals repeat' ((first | refine vE ?_ | refine vI ?_ | refine vB ?_ | refine vC ?_ | refine vN ?_ | refine xB ?_ | exact True.intro | ((first | refine WkN.sl ?_ ?_ | refine vD ?_ ?_ | refine WkN.norm ?_ ?_ | refine BxN.mk ?_ ?_); (focus (simp [AV.norm, AV.norm1, ]; done)))) <;> conv => whnf)
      · have h4 := ruleC_no (l := l.take i) hr
        rw [← hs] at h4
        have hk : ¬ ((e.kind = 4 ∨ e.kind = 5) ∧ e.rule = j) := by simpa [evRule, evApp] using hr
        generalize ruleC j (l.take i) = g at *
        generalize ruleC j (l.take (i + 1)) = g1 at *
        conv => whnf
        repeat' ((first | refine cY ?_ | refine cN ?_ | refine .not ?_ | refine wI ?_ | refine .map ?_ | refine .nil ?_ | refine .one ?_ | refine .app ?_ | refine .set ?_ | refine .rep ?_ | refine .any ?_ | refine cI ?_ | refine cJ ?_ | refine cYa ?_ | refine cNa ?_ | refine cIa ?_ | refine cJa ?_ | refine cIr ?_ | refine cId ?_ | refine cJd ?_ | with_reducible refine CondN.and ?_ | with_reducible refine CondN.or ?_ | refine CondN.lt (fun hc => ?_) (fun hc => ?_) | refine CondN.le (fun hc => ?_) (fun hc => ?_) | refine CondN.dec (fun hc => ?_) (fun hc => ?_) | refine CondN.any (fun hc => ?_) (fun hc => ?_) | refine nS ?_ | refine iA ?_ | refine iB ?_ | refine iC fun x hx => ?_ | refine iD fun x hx => ?_ | refine iE ?_ | refine iF ?_ | refine iG ?_ | refine iH fun x hx => ?_ | refine iI fun x hx => ?_ | refine iJ ?_ | refine hB ?_ | refine aP ?_ | refine .last ?_ | refine .last2 ?_ | refine zN fun k hk => ?_ | refine aR fun k hk => ?_ | refine mA ?_ | refine eL ?_ | refine eS ?_ | refine eLb ?_ | refine eSb ?_ | refine mB ?_ | refine mBb ?_ | refine pE ?_ | refine pZ ?_ | refine pC ?_ | refine pN ?_ | refine pN2 ?_ | refine mS (fun hc => ?_) (fun hc => ?_)) <;> conv => whnf)
        all_goals first | (exfalso; omega) | skip
        all_goals refine ⟨trivial, ?_⟩
        · refine EndN.at_ ?_ rfl
          conv => whnf
          refine And.intro ?_ ?_ <;> conv => whnf
          all_goals repeat' ((first | refine vE ?_ | refine vI ?_ | refine vB ?_ | refine vC ?_ | refine vN ?_ | refine xB ?_ | exact True.intro | ((first | refine WkN.sl ?_ ?_ | refine vD ?_ ?_ | refine WkN.norm ?_ ?_ | refine BxN.mk ?_ ?_); (focus (simp [AV.norm, AV.norm1, ]; done)))) <;> conv => whnf)
        · refine EndN.at_ ?_ rfl
          conv => whnf
          refine And.intro ?_ ?_ <;> conv => whnf
          all_goals repeat' ((first | refine vE ?_ | refine vI ?_ | refine vB ?_ | refine vC ?_ | refine vN ?_ | refine xB ?_ | exact True.intro | ((first | refine WkN.sl ?_ ?_ | refine vD ?_ ?_ | refine WkN.norm ?_ ?_ | refine BxN.mk ?_ ?_); (focus (simp [AV.norm, AV.norm1, ]; done)))) <;> conv => whnf)
        · refine EndN.at_ ?_ rfl
          conv => whnf
          refine And.intro ?_ ?_ <;> conv => whnf
          all_goals repeat' ((first | refine vE ?_ | refine vI ?_ | refine vB ?_ | refine vC ?_ | refine vN ?_ | refine xB ?_ | exact True.intro | ((first | refine WkN.sl ?_ ?_ | refine vD ?_ ?_ | refine WkN.norm ?_ ?_ | refine BxN.mk ?_ ?_); (focus (simp [AV.norm, AV.norm1, ]; done)))) <;> conv => whnf)
    · rw [List.take_length]
      have hcl : ((cntR j l).map intA).length + [AV.int .i64 (ruleC j l)].length ≤ glim := by simp [lim,glim, cntR_len]; omega
      conv => whnf
      repeat' ((first | refine cY ?_ | refine cN ?_ | refine .not ?_ | refine wI ?_ | refine .map ?_ | refine .nil ?_ | refine .one ?_ | refine .app ?_ | refine .set ?_ | refine .rep ?_ | refine .any ?_ | refine cI ?_ | refine cJ ?_ | refine cYa ?_ | refine cNa ?_ | refine cIa ?_ | refine cJa ?_ | refine cIr ?_ | refine cId ?_ | refine cJd ?_ | with_reducible refine CondN.and ?_ | with_reducible refine CondN.or ?_ | refine CondN.lt (fun hc => ?_) (fun hc => ?_) | refine CondN.le (fun hc => ?_) (fun hc => ?_) | refine CondN.dec (fun hc => ?_) (fun hc => ?_) | refine CondN.any (fun hc => ?_) (fun hc => ?_) | refine nS ?_ | refine iA ?_ | refine iB ?_ | refine iC fun x hx => ?_ | refine iD fun x hx => ?_ | refine iE ?_ | refine iF ?_ | refine iG ?_ | refine iH fun x hx => ?_ | refine iI fun x hx => ?_ | refine iJ ?_ | refine hB ?_ | refine aP ?_ | refine .last ?_ | refine .last2 ?_ | refine zN fun k hk => ?_ | refine aR fun k hk => ?_ | refine mA ?_ | refine eL ?_ | refine eS ?_ | refine eLb ?_ | refine eSb ?_ | refine mB ?_ | refine mBb ?_ | refine pE ?_ | refine pZ ?_ | refine pC ?_ | refine pN ?_ | refine pN2 ?_ | refine mS (fun hc => ?_) (fun hc => ?_)) <;> conv => whnf)
      refine ⟨trivial, ?_⟩
      refine EndN.at_ ?_ rfl
      conv => whnf
      refine And.intro ?_ ?_ <;> conv => whnf
      all_goals repeat' ((first | refine vE ?_ | refine vI ?_ | refine vB ?_ | refine vC ?_ | refine vN ?_ | refine xB ?_ | exact True.intro | ((first | refine WkN.sl ?_ ?_ | refine vD ?_ ?_ | refine WkN.norm ?_ ?_ | refine BxN.mk ?_ ?_); (focus (simp [AV.norm, AV.norm1, cntR_succ, ruleC]; done)))) <;> conv => whnf)
  · conv => whnf
    repeat' ((first | refine cY ?_ | refine cN ?_ | refine .not ?_ | refine wI ?_ | refine .map ?_ | refine .nil ?_ | refine .one ?_ | refine .app ?_ | refine .set ?_ | refine .rep ?_ | refine .any ?_ | refine cI ?_ | refine cJ ?_ | refine cYa ?_ | refine cNa ?_ | refine cIa ?_ | refine cJa ?_ | refine cIr ?_ | refine cId ?_ | refine cJd ?_ | with_reducible refine CondN.and ?_ | with_reducible refine CondN.or ?_ | refine CondN.lt (fun hc => ?_) (fun hc => ?_) | refine CondN.le (fun hc => ?_) (fun hc => ?_) | refine CondN.dec (fun hc => ?_) (fun hc => ?_) | refine CondN.any (fun hc => ?_) (fun hc => ?_) | refine nS ?_ | refine iA ?_ | refine iB ?_ | refine iC fun x hx => ?_ | refine iD fun x hx => ?_ | refine iE ?_ | refine iF ?_ | refine iG ?_ | refine iH fun x hx => ?_ | refine iI fun x hx => ?_ | refine iJ ?_ | refine hB ?_ | refine aP ?_ | refine .last ?_ | refine .last2 ?_ | refine zN fun k hk => ?_ | refine aR fun k hk => ?_ | refine mA ?_ | refine eL ?_ | refine eS ?_ | refine eLb ?_ | refine eSb ?_ | refine mB ?_ | refine mBb ?_ | refine pE ?_ | refine pZ ?_ | refine pC ?_ | refine pN ?_ | refine pN2 ?_ | refine mS (fun hc => ?_) (fun hc => ?_)) <;> conv => whnf)
    refine LoopP.count (fb := true) l.length (fun st_ i => ⟨(st_.sets [(9, .int .i64 i)]).env, [zeroBox, .cells [.sl (.own 1) ((cntR n l).map intA), .int .i64 0, .int .i64 (goalN (l.take i)), .int .i64 0]], 0⟩) (fun _ => True) trivial ?_ (fun i hi _ => ?_) (fun _ => ?_)
    · refine EndN.at_ ?_ rfl
      conv => whnf
      refine And.intro ?_ ?_ <;> conv => whnf
      all_goals repeat' ((first | refine vE ?_ | refine vI ?_ | refine vB ?_ | refine vC ?_ | refine vN ?_ | refine xB ?_ | exact True.intro | ((first | refine WkN.sl ?_ ?_ | refine vD ?_ ?_ | refine WkN.norm ?_ ?_ | refine BxN.mk ?_ ?_); (focus (simp [AV.norm, AV.norm1, goalN]; done)))) <;> conv => whnf)
    · obtain ⟨e, he⟩ : ∃ e, l[i]? = some e := ⟨_, List.getElem?_eq_getElem hi⟩
      have hs := take_snoc he
      have hg := goalN_le (l.take i)
      have hgl : (l.take i).length = i := by simp; omega
      by_cases hge : evGoal e = true
      · have h4 := goalN_yes (l := l.take i) hge
        rw [← hs] at h4
        have hk : e.kind = 1 ∨ e.kind = 2 := by simpa [evGoal] using hge
        generalize goalN (l.take i) = g at *
        generalize goalN (l.take (i + 1)) = g1 at *
        conv => whnf
        repeat' ((first | refine cY ?_ | refine cN ?_ | refine .not ?_ | refine wI ?_ | refine .map ?_ | refine .nil ?_ | refine .one ?_ | refine .app ?_ | refine .set ?_ | refine .rep ?_ | refine .any ?_ | refine cI ?_ | refine cJ ?_ | refine cYa ?_ | refine cNa ?_ | refine cIa ?_ | refine cJa ?_ | refine cIr ?_ | refine cId ?_ | refine cJd ?_ | with_reducible refine CondN.and ?_ | with_reducible refine CondN.or ?_ | refine CondN.lt (fun hc => ?_) (fun hc => ?_) | refine CondN.le (fun hc => ?_) (fun hc => ?_) | refine CondN.dec (fun hc => ?_) (fun hc => ?_) | refine CondN.any (fun hc => ?_) (fun hc => ?_) | refine nS ?_ | refine iA ?_ | refine iB ?_ | refine iC fun x hx => ?_ | refine iD fun x hx => ?_ | refine iE ?_ | refine iF ?_ | refine iG ?_ | refine iH fun x hx => ?_ | refine iI fun x hx => ?_ | refine iJ ?_ | refine hB ?_ | refine aP ?_ | refine .last ?_ | refine .last2 ?_ | refine zN fun k hk => ?_ | refine aR fun k hk => ?_ | refine mA ?_ | refine eL ?_ | refine eS ?_ | refine eLb ?_ | refine eSb ?_ | refine mB ?_ | refine mBb ?_ | refine pE ?_ | refine pZ ?_ | refine pC ?_ | refine pN ?_ | refine pN2 ?_ | refine mS (fun hc => ?_) (fun hc => ?_)) <;> conv => whnf)
        all_goals first | (exfalso; omega) | skip
        all_goals refine ⟨trivial, ?_⟩
        · refine EndN.at_ ?_ rfl
          conv => whnf
          refine And.intro ?_ ?_ <;> conv => whnf
          all_goals repeat' ((first | refine vE ?_ | refine vI ?_ | refine vB ?_ | refine vC ?_ | refine vN ?_ | refine xB ?_ | exact True.intro | ((first | refine WkN.sl ?_ ?_ | refine vD ?_ ?_ | refine WkN.norm ?_ ?_ | refine BxN.mk ?_ ?_); (focus (simp [AV.norm, AV.norm1, h4]; done)))) <;> conv => whnf)
        · refine EndN.at_ ?_ rfl
          conv => whnf
          refine And.intro ?_ ?_ <;> conv => whnf
          all_goals repeat' ((first | refine vE ?_ | refine vI ?_ | refine vB ?_ | refine vC ?_ | refine vN ?_ | refine xB ?_ | exact True.intro | ((first | refine WkN.sl ?_ ?_ | refine vD ?_ ?_ | refine WkN.norm ?_ ?_ | refine BxN.mk ?_ ?_); (focus (simp [AV.norm, AV.norm1, h4]; done)))) <;> conv => whnf)
      · have h4 := goalN_no (l := l.take i) (by simpa using hge)
        rw [← hs] at h4
        have hk : ¬ e.kind = 1 ∧ ¬ e.kind = 2 := by simpa [evGoal] using hge
        generalize goalN (l.take i) = g at *
        generalize goalN (l.take (i + 1)) = g1 at *
        conv => whnf
        repeat' ((first | refine cY ?_ | refine cN ?_ | refine .not ?_ | refine wI ?_ | refine .map ?_ | refine .nil ?_ | refine .one ?_ | refine .app ?_ | refine .set ?_ | refine .rep ?_ | refine .any ?_ | refine cI ?_ | refine cJ ?_ | refine cYa ?_ | refine cNa ?_ | refine cIa ?_ | refine cJa ?_ | refine cIr ?_ | refine cId ?_ | refine cJd ?_ | with_reducible refine CondN.and ?_ | with_reducible refine CondN.or ?_ | refine CondN.lt (fun hc => ?_) (fun hc => ?_) | refine CondN.le (fun hc => ?_) (fun hc => ?_) | refine CondN.dec (fun hc => ?_) (fun hc => ?_) | refine CondN.any (fun hc => ?_) (fun hc => ?_) | refine nS ?_ | refine iA ?_ | refine iB ?_ | refine iC fun x hx => ?_ | refine iD fun x hx => ?_ | refine iE ?_ | refine iF ?_ | refine iG ?_ | refine iH fun x hx => ?_ | refine iI fun x hx => ?_ | refine iJ ?_ | refine hB ?_ | refine aP ?_ | refine .last ?_ | refine .last2 ?_ | refine zN fun k hk => ?_ | refine aR fun k hk => ?_ | refine mA ?_ | refine eL ?_ | refine eS ?_ | refine eLb ?_ | refine eSb ?_ | refine mB ?_ | refine mBb ?_ | refine pE ?_ | refine pZ ?_ | refine pC ?_ | refine pN ?_ | refine pN2 ?_ | refine mS (fun hc => ?_) (fun hc => ?_)) <;> conv => whnf)
        refine ⟨trivial, ?_⟩
        refine EndN.at_ ?_ rfl
        conv => whnf
        refine And.intro ?_ ?_ <;> conv => whnf
        all_goals repeat' ((first | refine vE ?_ | refine vI ?_ | refine vB ?_ | refine vC ?_ | refine vN ?_ | refine xB ?_ | exact True.intro | ((first | refine WkN.sl ?_ ?_ | refine vD ?_ ?_ | refine WkN.norm ?_ ?_ | refine BxN.mk ?_ ?_); (focus (simp [AV.norm, AV.norm1, h4]; done)))) <;> conv => whnf)
    · rw [List.take_length]
      conv => whnf
      repeat' ((first | refine cY ?_ | refine cN ?_ | refine .not ?_ | refine wI ?_ | refine .map ?_ | refine .nil ?_ | refine .one ?_ | refine .app ?_ | refine .set ?_ | refine .rep ?_ | refine .any ?_ | refine cI ?_ | refine cJ ?_ | refine cYa ?_ | refine cNa ?_ | refine cIa ?_ | refine cJa ?_ | refine cIr ?_ | refine cId ?_ | refine cJd ?_ | with_reducible refine CondN.and ?_ | with_reducible refine CondN.or ?_ | refine CondN.lt (fun hc => ?_) (fun hc => ?_) | refine CondN.le (fun hc => ?_) (fun hc => ?_) | refine CondN.dec (fun hc => ?_) (fun hc => ?_) | refine CondN.any (fun hc => ?_) (fun hc => ?_) | refine nS ?_ | refine iA ?_ | refine iB ?_ | refine iC fun x hx => ?_ | refine iD fun x hx => ?_ | refine iE ?_ | refine iF ?_ | refine iG ?_ | refine iH fun x hx => ?_ | refine iI fun x hx => ?_ | refine iJ ?_ | refine hB ?_ | refine aP ?_ | refine .last ?_ | refine .last2 ?_ | refine zN fun k hk => ?_ | refine aR fun k hk => ?_ | refine mA ?_ | refine eL ?_ | refine eS ?_ | refine eLb ?_ | refine eSb ?_ | refine mB ?_ | refine mBb ?_ | refine pE ?_ | refine pZ ?_ | refine pC ?_ | refine pN ?_ | refine pN2 ?_ | refine mS (fun hc => ?_) (fun hc => ?_) | refine RetP.nrm ?_) <;> conv => whnf)
      rw [ofC, Ct.av, ← hn]
      rfl
end Go.CK
