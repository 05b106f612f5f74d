/-
  LOOKUP, in the abstract machine: the functions' contracts, 5: all accesses; keys; the laws. By an AI agent.
-/
import Derived.Test.YtfpmkfoddeogbaaLkpD
set_option linter.unusedSimpArgs false
set_option linter.unusedVariables false
namespace Go.CK
open Go.AM Go.Proofs
theorem headAV_n {p : Pg} {x : Pl} {k : Int} (h : headI p x k = none) : headAV p x k = .tup [At.zero.av, .sl .no [], .bool false] := by rw [headAV, h]
theorem headAV_s {p : Pg} {x : Pl} {k : Int} {y : At × List Int} (h : headI p x k = some y) : headAV p x k = .tup [y.1.av, slA intA y.2, .bool true] := by rw [headAV, h]
set_option maxRecDepth 100000 in
theorem all_ok {p : Pg} {plans : List Pl} (hp : p.ok8) (hp2 : ∀ x ∈ plans, x.order.length ≤ 8) (hp3 : plans.length ≤ 1000) : Fun Try.prog 19 [p.av, slA Pl.av plans] (slA Ac.av (allAc p plans)) := by
  unfold allAc
  have hlen := allJ_len (p := p) hp2
  refine Fun.of (op_lookup_All (by simp) ?_) rfl rfl
  conv => whnf
  conv => whnf
  repeat' ((first | refine cY ?_ | refine cN ?_ | refine .not ?_ | refine wI ?_ | refine .map ?_ | refine .nil ?_ | refine .one ?_ | refine .app ?_ | refine .set ?_ | refine .rep ?_ | refine .any ?_ | refine cI ?_ | refine cJ ?_ | refine cYa ?_ | refine cNa ?_ | refine cIa ?_ | refine cJa ?_ | refine cIr ?_ | refine cId ?_ | refine cJd ?_ | with_reducible refine CondN.and ?_ | with_reducible refine CondN.or ?_ | refine CondN.lt (fun hc => ?_) (fun hc => ?_) | refine CondN.le (fun hc => ?_) (fun hc => ?_) | refine CondN.dec (fun hc => ?_) (fun hc => ?_) | refine CondN.any (fun hc => ?_) (fun hc => ?_) | refine nS ?_ | refine iA ?_ | refine iB ?_ | refine iC fun x hx => ?_ | refine iD fun x hx => ?_ | refine iE ?_ | refine iF ?_ | refine iG ?_ | refine iH fun x hx => ?_ | refine iI fun x hx => ?_ | refine iJ ?_ | refine hB ?_ | refine aP ?_ | refine .last ?_ | refine .last2 ?_ | refine zN fun k hk => ?_ | refine aR fun k hk => ?_ | refine mA ?_ | refine mS (fun hc => ?_) (fun hc => ?_) | refine RetP.nrm ?_) <;> conv => whnf)
  refine LoopP.count (fb := true) plans.length (fun st_ j => st_.sets [(5, .sl (.own 3) ((allJ p plans j).map Ac.av)), (14, .int .i64 j)]) (fun _ => True) trivial ?_ (fun j hj _ => ?_) (fun _ => ?_)
  · refine EndN.at_ ?_ rfl
    conv => whnf
    refine And.intro ?_ ?_ <;> conv => whnf
    all_goals repeat' ((first | refine vE ?_ | refine vI ?_ | refine vB ?_ | refine vC ?_ | refine vN ?_ | refine xB ?_ | exact True.intro | ((first | refine WkN.sl ?_ ?_ | refine vD ?_ ?_ | refine WkN.norm ?_ ?_ | refine BxN.mk ?_ ?_); (focus (simp [AV.norm, AV.norm1, allJ]; done)))) <;> conv => whnf)
  · obtain ⟨x, hx⟩ : ∃ x, plans[j]? = some x := ⟨_, List.getElem?_eq_getElem hj⟩
    have hxo := hp2 x (List.mem_of_getElem? hx)
    have hl1 := hlen j
    have hsj : allJ p plans (j + 1) = allK p x (allJ p plans j) x.order.length := by rw [allJ, hx]
    conv => whnf
    repeat' ((first | refine cY ?_ | refine cN ?_ | refine .not ?_ | refine wI ?_ | refine .map ?_ | refine .nil ?_ | refine .one ?_ | refine .app ?_ | refine .set ?_ | refine .rep ?_ | refine .any ?_ | refine cI ?_ | refine cJ ?_ | refine cYa ?_ | refine cNa ?_ | refine cIa ?_ | refine cJa ?_ | refine cIr ?_ | refine cId ?_ | refine cJd ?_ | with_reducible refine CondN.and ?_ | with_reducible refine CondN.or ?_ | refine CondN.lt (fun hc => ?_) (fun hc => ?_) | refine CondN.le (fun hc => ?_) (fun hc => ?_) | refine CondN.dec (fun hc => ?_) (fun hc => ?_) | refine CondN.any (fun hc => ?_) (fun hc => ?_) | refine nS ?_ | refine iA ?_ | refine iB ?_ | refine iC fun x hx => ?_ | refine iD fun x hx => ?_ | refine iE ?_ | refine iF ?_ | refine iG ?_ | refine iH fun x hx => ?_ | refine iI fun x hx => ?_ | refine iJ ?_ | refine hB ?_ | refine aP ?_ | refine .last ?_ | refine .last2 ?_ | refine zN fun k hk => ?_ | refine aR fun k hk => ?_ | refine mA ?_ | refine mS (fun hc => ?_) (fun hc => ?_) | refine RetP.nrm ?_) <;> conv => whnf)
    refine LoopP.count (fb := true) x.order.length (fun st_ k => st_.sets [(5, .sl (.own 3) ((allK p x (allJ p plans j) k).map Ac.av)), (21, .int .i64 k)]) (fun _ => True) trivial ?_ (fun k hk _ => ?_) (fun _ => ?_)
    · refine EndN.at_ ?_ rfl
      conv => whnf
      refine And.intro ?_ ?_ <;> conv => whnf
      all_goals repeat' ((first | refine vE ?_ | refine vI ?_ | refine vB ?_ | refine vC ?_ | refine vN ?_ | refine xB ?_ | exact True.intro | ((first | refine WkN.sl ?_ ?_ | refine vD ?_ ?_ | refine WkN.norm ?_ ?_ | refine BxN.mk ?_ ?_); (focus (simp [AV.norm, AV.norm1, allK]; done)))) <;> conv => whnf)
    · have hl2 := allK_len p x (allJ p plans j) k
      have hH := head_ok (p := p) (x := x) (k := (k : Int)) hp
      cases hI : headI p x k with
      | none =>
        rw [headAV_n hI] at hH
        have hs : allK p x (allJ p plans j) (k + 1) = allK p x (allJ p plans j) k := by rw [allK, acStep, hI]
        conv => whnf
        repeat' ((first | refine CallN.fn (hH) ?_ | refine CallP.fn (hH) ?_ | refine CallN.fn (lkFind_ok) ?_ | refine CallP.fn (lkFind_ok) ?_ | refine cY ?_ | refine cN ?_ | refine .not ?_ | refine wI ?_ | refine .map ?_ | refine .nil ?_ | refine .one ?_ | refine .app ?_ | refine .set ?_ | refine .rep ?_ | refine .any ?_ | refine cI ?_ | refine cJ ?_ | refine cYa ?_ | refine cNa ?_ | refine cIa ?_ | refine cJa ?_ | refine cIr ?_ | refine cId ?_ | refine cJd ?_ | with_reducible refine CondN.and ?_ | with_reducible refine CondN.or ?_ | refine CondN.lt (fun hc => ?_) (fun hc => ?_) | refine CondN.le (fun hc => ?_) (fun hc => ?_) | refine CondN.dec (fun hc => ?_) (fun hc => ?_) | refine CondN.any (fun hc => ?_) (fun hc => ?_) | refine nS ?_ | refine iA ?_ | refine iB ?_ | refine iC fun x hx => ?_ | refine iD fun x hx => ?_ | refine iE ?_ | refine iF ?_ | refine iG ?_ | refine iH fun x hx => ?_ | refine iI fun x hx => ?_ | refine iJ ?_ | refine hB ?_ | refine aP ?_ | refine .last ?_ | refine .last2 ?_ | refine zN fun k hk => ?_ | refine aR fun k hk => ?_ | refine mA ?_ | refine mS (fun hc => ?_) (fun hc => ?_) | refine RetP.nrm ?_) <;> conv => whnf)
        refine ⟨trivial, ?_⟩
        refine EndN.atC 2 ?_ rfl rfl rfl rfl rfl
        conv => whnf
        refine And.intro ?_ ?_ <;> conv => whnf
        all_goals repeat' ((first | refine vE ?_ | refine vI ?_ | refine vB ?_ | refine vC ?_ | refine vN ?_ | refine xB ?_ | exact True.intro | ((first | refine WkN.sl ?_ ?_ | refine vD ?_ ?_ | refine WkN.norm ?_ ?_ | refine BxN.mk ?_ ?_); (focus (simp [AV.norm, AV.norm1, hs]; done)))) <;> conv => whnf)
      | some y =>
        rw [headAV_s hI] at hH
        have hs : allK p x (allJ p plans j) (k + 1) = if findI (isAc (acOf y.1 y.2)) (allK p x (allJ p plans j) k) < 0 then allK p x (allJ p plans j) k ++ [acOf y.1 y.2] else allK p x (allJ p plans j) k := by rw [allK, acStep, hI]
        conv => whnf
        repeat' ((first | refine CallN.fn (hH) ?_ | refine CallP.fn (hH) ?_ | refine CallN.fn (lkFind_ok) ?_ | refine CallP.fn (lkFind_ok) ?_ | refine cY ?_ | refine cN ?_ | refine .not ?_ | refine wI ?_ | refine .map ?_ | refine .nil ?_ | refine .one ?_ | refine .app ?_ | refine .set ?_ | refine .rep ?_ | refine .any ?_ | refine cI ?_ | refine cJ ?_ | refine cYa ?_ | refine cNa ?_ | refine cIa ?_ | refine cJa ?_ | refine cIr ?_ | refine cId ?_ | refine cJd ?_ | with_reducible refine CondN.and ?_ | with_reducible refine CondN.or ?_ | refine CondN.lt (fun hc => ?_) (fun hc => ?_) | refine CondN.le (fun hc => ?_) (fun hc => ?_) | refine CondN.dec (fun hc => ?_) (fun hc => ?_) | refine CondN.any (fun hc => ?_) (fun hc => ?_) | refine nS ?_ | refine iA ?_ | refine iB ?_ | refine iC fun x hx => ?_ | refine iD fun x hx => ?_ | refine iE ?_ | refine iF ?_ | refine iG ?_ | refine iH fun x hx => ?_ | refine iI fun x hx => ?_ | refine iJ ?_ | refine hB ?_ | refine aP ?_ | refine .last ?_ | refine .last2 ?_ | refine zN fun k hk => ?_ | refine aR fun k hk => ?_ | refine mA ?_ | refine mS (fun hc => ?_) (fun hc => ?_) | refine RetP.nrm ?_) <;> conv => whnf)
        · rw [if_pos hc] at hs
          refine ⟨trivial, ?_⟩
          refine EndN.atC 2 ?_ rfl rfl rfl rfl rfl
          conv => whnf
          refine And.intro ?_ ?_ <;> conv => whnf
          all_goals repeat' ((first | refine vE ?_ | refine vI ?_ | refine vB ?_ | refine vC ?_ | refine vN ?_ | refine xB ?_ | exact True.intro | ((first | refine WkN.sl ?_ ?_ | refine vD ?_ ?_ | refine WkN.norm ?_ ?_ | refine BxN.mk ?_ ?_); (focus (simp [AV.norm, AV.norm1, hs, Ac.av, acOf]; done)))) <;> conv => whnf)
        · rw [if_neg (by omega)] at hs
          refine ⟨trivial, ?_⟩
          refine EndN.atC 2 ?_ rfl rfl rfl rfl rfl
          conv => whnf
          refine And.intro ?_ ?_ <;> conv => whnf
          all_goals repeat' ((first | refine vE ?_ | refine vI ?_ | refine vB ?_ | refine vC ?_ | refine vN ?_ | refine xB ?_ | exact True.intro | ((first | refine WkN.sl ?_ ?_ | refine vD ?_ ?_ | refine WkN.norm ?_ ?_ | refine BxN.mk ?_ ?_); (focus (simp [AV.norm, AV.norm1, hs]; done)))) <;> conv => whnf)
    · rw [← hsj]
      conv => whnf
      repeat' ((first | refine cY ?_ | refine cN ?_ | refine .not ?_ | refine wI ?_ | refine .map ?_ | refine .nil ?_ | refine .one ?_ | refine .app ?_ | refine .set ?_ | refine .rep ?_ | refine .any ?_ | refine cI ?_ | refine cJ ?_ | refine cYa ?_ | refine cNa ?_ | refine cIa ?_ | refine cJa ?_ | refine cIr ?_ | refine cId ?_ | refine cJd ?_ | with_reducible refine CondN.and ?_ | with_reducible refine CondN.or ?_ | refine CondN.lt (fun hc => ?_) (fun hc => ?_) | refine CondN.le (fun hc => ?_) (fun hc => ?_) | refine CondN.dec (fun hc => ?_) (fun hc => ?_) | refine CondN.any (fun hc => ?_) (fun hc => ?_) | refine nS ?_ | refine iA ?_ | refine iB ?_ | refine iC fun x hx => ?_ | refine iD fun x hx => ?_ | refine iE ?_ | refine iF ?_ | refine iG ?_ | refine iH fun x hx => ?_ | refine iI fun x hx => ?_ | refine iJ ?_ | refine hB ?_ | refine aP ?_ | refine .last ?_ | refine .last2 ?_ | refine zN fun k hk => ?_ | refine aR fun k hk => ?_ | refine mA ?_ | refine mS (fun hc => ?_) (fun hc => ?_) | refine RetP.nrm ?_) <;> conv => whnf)
      refine ⟨trivial, ?_⟩
      refine EndN.atC 1 ?_ rfl rfl rfl rfl rfl
      conv => whnf
      refine And.intro ?_ ?_ <;> conv => whnf
      all_goals repeat' ((first | refine vE ?_ | refine vI ?_ | refine vB ?_ | refine vC ?_ | refine vN ?_ | refine xB ?_ | exact True.intro | ((first | refine WkN.sl ?_ ?_ | refine vD ?_ ?_ | refine WkN.norm ?_ ?_ | refine BxN.mk ?_ ?_); (focus (simp [AV.norm, AV.norm1, ]; done)))) <;> conv => whnf)
  · conv => whnf
    repeat' ((first | refine cY ?_ | refine cN ?_ | refine .not ?_ | refine wI ?_ | refine .map ?_ | refine .nil ?_ | refine .one ?_ | refine .app ?_ | refine .set ?_ | refine .rep ?_ | refine .any ?_ | refine cI ?_ | refine cJ ?_ | refine cYa ?_ | refine cNa ?_ | refine cIa ?_ | refine cJa ?_ | refine cIr ?_ | refine cId ?_ | refine cJd ?_ | with_reducible refine CondN.and ?_ | with_reducible refine CondN.or ?_ | refine CondN.lt (fun hc => ?_) (fun hc => ?_) | refine CondN.le (fun hc => ?_) (fun hc => ?_) | refine CondN.dec (fun hc => ?_) (fun hc => ?_) | refine CondN.any (fun hc => ?_) (fun hc => ?_) | refine nS ?_ | refine iA ?_ | refine iB ?_ | refine iC fun x hx => ?_ | refine iD fun x hx => ?_ | refine iE ?_ | refine iF ?_ | refine iG ?_ | refine iH fun x hx => ?_ | refine iI fun x hx => ?_ | refine iJ ?_ | refine hB ?_ | refine aP ?_ | refine .last ?_ | refine .last2 ?_ | refine zN fun k hk => ?_ | refine aR fun k hk => ?_ | refine mA ?_ | refine mS (fun hc => ?_) (fun hc => ?_) | refine RetP.nrm ?_) <;> conv => whnf)
set_option maxRecDepth 100000 in
theorem refAll_ok {p : Pg} {plans : List Pl} (hp : p.ok8) (hp2 : ∀ x ∈ plans, x.order.length ≤ 8) (hp3 : plans.length ≤ 1000) : Fun Try.prog 21 [p.av, slA Pl.av plans] (slA Ac.av (allAc p plans)) := by
  unfold allAc
  have hlen := allJ_len (p := p) hp2
  refine Fun.of (op_constraintref30_All (by simp) ?_) rfl rfl
  conv => whnf
  conv => whnf
  repeat' ((first | refine cY ?_ | refine cN ?_ | refine .not ?_ | refine wI ?_ | refine .map ?_ | refine .nil ?_ | refine .one ?_ | refine .app ?_ | refine .set ?_ | refine .rep ?_ | refine .any ?_ | refine cI ?_ | refine cJ ?_ | refine cYa ?_ | refine cNa ?_ | refine cIa ?_ | refine cJa ?_ | refine cIr ?_ | refine cId ?_ | refine cJd ?_ | with_reducible refine CondN.and ?_ | with_reducible refine CondN.or ?_ | refine CondN.lt (fun hc => ?_) (fun hc => ?_) | refine CondN.le (fun hc => ?_) (fun hc => ?_) | refine CondN.dec (fun hc => ?_) (fun hc => ?_) | refine CondN.any (fun hc => ?_) (fun hc => ?_) | refine nS ?_ | refine iA ?_ | refine iB ?_ | refine iC fun x hx => ?_ | refine iD fun x hx => ?_ | refine iE ?_ | refine iF ?_ | refine iG ?_ | refine iH fun x hx => ?_ | refine iI fun x hx => ?_ | refine iJ ?_ | refine hB ?_ | refine aP ?_ | refine .last ?_ | refine .last2 ?_ | refine zN fun k hk => ?_ | refine aR fun k hk => ?_ | refine mA ?_ | refine mS (fun hc => ?_) (fun hc => ?_) | refine RetP.nrm ?_) <;> conv => whnf)
  refine LoopP.count (fb := true) plans.length (fun st_ j => st_.sets [(5, .sl (.own 3) ((allJ p plans j).map Ac.av)), (6, .int .i64 j)]) (fun _ => True) trivial ?_ (fun j hj _ => ?_) (fun _ => ?_)
  · refine EndN.at_ ?_ rfl
    conv => whnf
    refine And.intro ?_ ?_ <;> conv => whnf
    all_goals repeat' ((first | refine vE ?_ | refine vI ?_ | refine vB ?_ | refine vC ?_ | refine vN ?_ | refine xB ?_ | exact True.intro | ((first | refine WkN.sl ?_ ?_ | refine vD ?_ ?_ | refine WkN.norm ?_ ?_ | refine BxN.mk ?_ ?_); (focus (simp [AV.norm, AV.norm1, allJ]; done)))) <;> conv => whnf)
  · obtain ⟨x, hx⟩ : ∃ x, plans[j]? = some x := ⟨_, List.getElem?_eq_getElem hj⟩
    have hxo := hp2 x (List.mem_of_getElem? hx)
    have hl1 := hlen j
    have hsj : allJ p plans (j + 1) = allK p x (allJ p plans j) x.order.length := by rw [allJ, hx]
    conv => whnf
    repeat' ((first | refine cY ?_ | refine cN ?_ | refine .not ?_ | refine wI ?_ | refine .map ?_ | refine .nil ?_ | refine .one ?_ | refine .app ?_ | refine .set ?_ | refine .rep ?_ | refine .any ?_ | refine cI ?_ | refine cJ ?_ | refine cYa ?_ | refine cNa ?_ | refine cIa ?_ | refine cJa ?_ | refine cIr ?_ | refine cId ?_ | refine cJd ?_ | with_reducible refine CondN.and ?_ | with_reducible refine CondN.or ?_ | refine CondN.lt (fun hc => ?_) (fun hc => ?_) | refine CondN.le (fun hc => ?_) (fun hc => ?_) | refine CondN.dec (fun hc => ?_) (fun hc => ?_) | refine CondN.any (fun hc => ?_) (fun hc => ?_) | refine nS ?_ | refine iA ?_ | refine iB ?_ | refine iC fun x hx => ?_ | refine iD fun x hx => ?_ | refine iE ?_ | refine iF ?_ | refine iG ?_ | refine iH fun x hx => ?_ | refine iI fun x hx => ?_ | refine iJ ?_ | refine hB ?_ | refine aP ?_ | refine .last ?_ | refine .last2 ?_ | refine zN fun k hk => ?_ | refine aR fun k hk => ?_ | refine mA ?_ | refine mS (fun hc => ?_) (fun hc => ?_) | refine RetP.nrm ?_) <;> conv => whnf)
    refine LoopP.count (fb := true) x.order.length (fun st_ k => st_.sets [(5, .sl (.own 3) ((allK p x (allJ p plans j) k).map Ac.av)), (7, .int .i64 k)]) (fun _ => True) trivial ?_ (fun k hk _ => ?_) (fun _ => ?_)
    · refine EndN.at_ ?_ rfl
      conv => whnf
      refine And.intro ?_ ?_ <;> conv => whnf
      all_goals repeat' ((first | refine vE ?_ | refine vI ?_ | refine vB ?_ | refine vC ?_ | refine vN ?_ | refine xB ?_ | exact True.intro | ((first | refine WkN.sl ?_ ?_ | refine vD ?_ ?_ | refine WkN.norm ?_ ?_ | refine BxN.mk ?_ ?_); (focus (simp [AV.norm, AV.norm1, allK]; done)))) <;> conv => whnf)
    · have hl2 := allK_len p x (allJ p plans j) k
      have hH := refHead_ok (p := p) (x := x) (k := (k : Int)) hp
      cases hI : headI p x k with
      | none =>
        rw [headAV_n hI] at hH
        have hs : allK p x (allJ p plans j) (k + 1) = allK p x (allJ p plans j) k := by rw [allK, acStep, hI]
        conv => whnf
        repeat' ((first | refine CallN.fn (hH) ?_ | refine CallP.fn (hH) ?_ | refine cY ?_ | refine cN ?_ | refine .not ?_ | refine wI ?_ | refine .map ?_ | refine .nil ?_ | refine .one ?_ | refine .app ?_ | refine .set ?_ | refine .rep ?_ | refine .any ?_ | refine cI ?_ | refine cJ ?_ | refine cYa ?_ | refine cNa ?_ | refine cIa ?_ | refine cJa ?_ | refine cIr ?_ | refine cId ?_ | refine cJd ?_ | with_reducible refine CondN.and ?_ | with_reducible refine CondN.or ?_ | refine CondN.lt (fun hc => ?_) (fun hc => ?_) | refine CondN.le (fun hc => ?_) (fun hc => ?_) | refine CondN.dec (fun hc => ?_) (fun hc => ?_) | refine CondN.any (fun hc => ?_) (fun hc => ?_) | refine nS ?_ | refine iA ?_ | refine iB ?_ | refine iC fun x hx => ?_ | refine iD fun x hx => ?_ | refine iE ?_ | refine iF ?_ | refine iG ?_ | refine iH fun x hx => ?_ | refine iI fun x hx => ?_ | refine iJ ?_ | refine hB ?_ | refine aP ?_ | refine .last ?_ | refine .last2 ?_ | refine zN fun k hk => ?_ | refine aR fun k hk => ?_ | refine mA ?_ | refine mS (fun hc => ?_) (fun hc => ?_) | refine RetP.nrm ?_) <;> conv => whnf)
        refine ⟨trivial, ?_⟩
        refine EndN.atC 1 ?_ rfl rfl rfl rfl rfl
        conv => whnf
        refine And.intro ?_ ?_ <;> conv => whnf
        all_goals repeat' ((first | refine vE ?_ | refine vI ?_ | refine vB ?_ | refine vC ?_ | refine vN ?_ | refine xB ?_ | exact True.intro | ((first | refine WkN.sl ?_ ?_ | refine vD ?_ ?_ | refine WkN.norm ?_ ?_ | refine BxN.mk ?_ ?_); (focus (simp [AV.norm, AV.norm1, hs]; done)))) <;> conv => whnf)
      | some y =>
        rw [headAV_s hI] at hH
        have hs : allK p x (allJ p plans j) (k + 1) = if findI (isAc (acOf y.1 y.2)) (allK p x (allJ p plans j) k) < 0 then allK p x (allJ p plans j) k ++ [acOf y.1 y.2] else allK p x (allJ p plans j) k := by rw [allK, acStep, hI]
        conv => whnf
        repeat' ((first | refine CallN.fn (hH) ?_ | refine CallP.fn (hH) ?_ | refine CallN.fn (refFindAc_ok (y := acOf y.1 y.2)) ?_ | refine CallP.fn (refFindAc_ok (y := acOf y.1 y.2)) ?_ | refine cY ?_ | refine cN ?_ | refine .not ?_ | refine wI ?_ | refine .map ?_ | refine .nil ?_ | refine .one ?_ | refine .app ?_ | refine .set ?_ | refine .rep ?_ | refine .any ?_ | refine cI ?_ | refine cJ ?_ | refine cYa ?_ | refine cNa ?_ | refine cIa ?_ | refine cJa ?_ | refine cIr ?_ | refine cId ?_ | refine cJd ?_ | with_reducible refine CondN.and ?_ | with_reducible refine CondN.or ?_ | refine CondN.lt (fun hc => ?_) (fun hc => ?_) | refine CondN.le (fun hc => ?_) (fun hc => ?_) | refine CondN.dec (fun hc => ?_) (fun hc => ?_) | refine CondN.any (fun hc => ?_) (fun hc => ?_) | refine nS ?_ | refine iA ?_ | refine iB ?_ | refine iC fun x hx => ?_ | refine iD fun x hx => ?_ | refine iE ?_ | refine iF ?_ | refine iG ?_ | refine iH fun x hx => ?_ | refine iI fun x hx => ?_ | refine iJ ?_ | refine hB ?_ | refine aP ?_ | refine .last ?_ | refine .last2 ?_ | refine zN fun k hk => ?_ | refine aR fun k hk => ?_ | refine mA ?_ | refine mS (fun hc => ?_) (fun hc => ?_) | refine RetP.nrm ?_) <;> conv => whnf)
        · rw [if_pos hc] at hs
          refine ⟨trivial, ?_⟩
          refine EndN.atC 1 ?_ rfl rfl rfl rfl rfl
          conv => whnf
          refine And.intro ?_ ?_ <;> conv => whnf
          all_goals repeat' ((first | refine vE ?_ | refine vI ?_ | refine vB ?_ | refine vC ?_ | refine vN ?_ | refine xB ?_ | exact True.intro | ((first | refine WkN.sl ?_ ?_ | refine vD ?_ ?_ | refine WkN.norm ?_ ?_ | refine BxN.mk ?_ ?_); (focus (simp [AV.norm, AV.norm1, hs, Ac.av, acOf]; done)))) <;> conv => whnf)
        · rw [if_neg (by omega)] at hs
          refine ⟨trivial, ?_⟩
          refine EndN.atC 1 ?_ rfl rfl rfl rfl rfl
          conv => whnf
          refine And.intro ?_ ?_ <;> conv => whnf
          all_goals repeat' ((first | refine vE ?_ | refine vI ?_ | refine vB ?_ | refine vC ?_ | refine vN ?_ | refine xB ?_ | exact True.intro | ((first | refine WkN.sl ?_ ?_ | refine vD ?_ ?_ | refine WkN.norm ?_ ?_ | refine BxN.mk ?_ ?_); (focus (simp [AV.norm, AV.norm1, hs]; done)))) <;> conv => whnf)
    · rw [← hsj]
      conv => whnf
      repeat' ((first | refine cY ?_ | refine cN ?_ | refine .not ?_ | refine wI ?_ | refine .map ?_ | refine .nil ?_ | refine .one ?_ | refine .app ?_ | refine .set ?_ | refine .rep ?_ | refine .any ?_ | refine cI ?_ | refine cJ ?_ | refine cYa ?_ | refine cNa ?_ | refine cIa ?_ | refine cJa ?_ | refine cIr ?_ | refine cId ?_ | refine cJd ?_ | with_reducible refine CondN.and ?_ | with_reducible refine CondN.or ?_ | refine CondN.lt (fun hc => ?_) (fun hc => ?_) | refine CondN.le (fun hc => ?_) (fun hc => ?_) | refine CondN.dec (fun hc => ?_) (fun hc => ?_) | refine CondN.any (fun hc => ?_) (fun hc => ?_) | refine nS ?_ | refine iA ?_ | refine iB ?_ | refine iC fun x hx => ?_ | refine iD fun x hx => ?_ | refine iE ?_ | refine iF ?_ | refine iG ?_ | refine iH fun x hx => ?_ | refine iI fun x hx => ?_ | refine iJ ?_ | refine hB ?_ | refine aP ?_ | refine .last ?_ | refine .last2 ?_ | refine zN fun k hk => ?_ | refine aR fun k hk => ?_ | refine mA ?_ | refine mS (fun hc => ?_) (fun hc => ?_) | refine RetP.nrm ?_) <;> conv => whnf)
      refine ⟨trivial, ?_⟩
      refine EndN.atC 1 ?_ rfl rfl rfl rfl rfl
      conv => whnf
      refine And.intro ?_ ?_ <;> conv => whnf
      all_goals repeat' ((first | refine vE ?_ | refine vI ?_ | refine vB ?_ | refine vC ?_ | refine vN ?_ | refine xB ?_ | exact True.intro | ((first | refine WkN.sl ?_ ?_ | refine vD ?_ ?_ | refine WkN.norm ?_ ?_ | refine BxN.mk ?_ ?_); (focus (simp [AV.norm, AV.norm1, ]; done)))) <;> conv => whnf)
  · conv => whnf
    repeat' ((first | refine cY ?_ | refine cN ?_ | refine .not ?_ | refine wI ?_ | refine .map ?_ | refine .nil ?_ | refine .one ?_ | refine .app ?_ | refine .set ?_ | refine .rep ?_ | refine .any ?_ | refine cI ?_ | refine cJ ?_ | refine cYa ?_ | refine cNa ?_ | refine cIa ?_ | refine cJa ?_ | refine cIr ?_ | refine cId ?_ | refine cJd ?_ | with_reducible refine CondN.and ?_ | with_reducible refine CondN.or ?_ | refine CondN.lt (fun hc => ?_) (fun hc => ?_) | refine CondN.le (fun hc => ?_) (fun hc => ?_) | refine CondN.dec (fun hc => ?_) (fun hc => ?_) | refine CondN.any (fun hc => ?_) (fun hc => ?_) | refine nS ?_ | refine iA ?_ | refine iB ?_ | refine iC fun x hx => ?_ | refine iD fun x hx => ?_ | refine iE ?_ | refine iF ?_ | refine iG ?_ | refine iH fun x hx => ?_ | refine iI fun x hx => ?_ | refine iJ ?_ | refine hB ?_ | refine aP ?_ | refine .last ?_ | refine .last2 ?_ | refine zN fun k hk => ?_ | refine aR fun k hk => ?_ | refine mA ?_ | refine mS (fun hc => ?_) (fun hc => ?_) | refine RetP.nrm ?_) <;> conv => whnf)
end Go.CK
