/-
  WAKE, in the abstract machine: the functions' the laws, 2. By an AI agent.
-/
import Derived.Test.YtfpmkfoddeogbaaWakC
set_option linter.unusedSimpArgs false
set_option linter.unusedVariables false
namespace Go.CK
open Go.AM Go.Proofs
theorem mem_aff {l : List It} {vars : List Int} {n : Int} : n ∈ affI l vars ↔ ∃ x ∈ l, x.id = n ∧ ∃ v ∈ firsts (Tm.vss x.atom.args), v ∈ vars := by
  unfold affI
  rw [setI_mem, hits, List.mem_map]
  constructor
  · rintro ⟨x, hx, rfl⟩
    obtain ⟨h1, h2⟩ := List.mem_filter.1 hx
    obtain ⟨v, hv, h3⟩ := List.any_eq_true.1 h2
    exact ⟨x, h1, rfl, v, hv, of_decide_eq_true h3⟩
  · rintro ⟨x, hx, rfl, v, hv, h3⟩
    exact ⟨x, List.mem_filter.2 ⟨hx, List.any_eq_true.2 ⟨v, hv, decide_eq_true h3⟩⟩, rfl⟩
theorem aff_more {l : List It} {vars more : List Int} {n : Int} (h : n ∈ affI l vars) : n ∈ affI l (vars ++ more) := by
  obtain ⟨x, h1, h2, v, h3, h4⟩ := mem_aff.1 h
  exact mem_aff.2 ⟨x, h1, h2, v, h3, by simp [h4]⟩
theorem aff_one {l : List It} {vars : List Int} {n : Int} (h : n ∈ affI l vars) : (vars.any fun v => decide (n ∈ affI l [v])) = true := by
  obtain ⟨x, h1, h2, v, h3, h4⟩ := mem_aff.1 h
  exact List.any_eq_true.2 ⟨v, h4, decide_eq_true (mem_aff.2 ⟨x, h1, h2, v, h3, by simp⟩)⟩
theorem aff_nil (l : List It) : affI l [] = [] := List.eq_nil_iff_forall_not_mem.2 fun n h => by
  obtain ⟨x, h1, h2, v, h3, h4⟩ := mem_aff.1 h
  cases h4
set_option maxRecDepth 100000 in
theorem wakeTops_ok {stack : List Fm} {l : List It} {vars : List Int} : Fun Try.prog 7 [slA Fm.av stack, slA It.av l, slA intA vars] (.bool true) := by
  have hP := fun (h : FewI l) (k : stack.length ≤ 100000) => push_ok (stack := stack) (l := l) (vars := vars) h k
  have hA := fun (h : FewI l) => affected_ok (l := l) (vars := vars) h
  have hlen := fun (h : FewI l) => affI_len (l := l) (vars := vars) h
  unfold pushAV pushR at hP
  have hasc : Asc (affI l vars) := setI_asc _
  generalize affI l vars = ids at hP hA hlen hasc
  by_cases hb : (1000 : Int) < stack.length + ids.length
  · rw [if_pos hb] at hP
    simp only at hP
    refine Fun.of (op_constraintlaw22_WakeTops (by simp) ?_) rfl rfl
    conv => whnf
    conv => whnf
    repeat' ((first | refine CallN.fn (fewItems_ok) ?_ | refine CallP.fn (fewItems_ok) ?_ | refine CallN.fn (fewF_ok) ?_ | refine CallP.fn (fewF_ok) ?_ | refine CallN.fn (awake22) ?_ | refine CallP.fn (awake22) ?_ | refine CallN.fn (hP (fewB_I (by assumption)) (by have := fewF_le (l := stack) (by assumption); omega)) ?_ | refine CallP.fn (hP (fewB_I (by assumption)) (by have := fewF_le (l := stack) (by assumption); omega)) ?_ | refine CallN.fn (hA (fewB_I (by assumption))) ?_ | refine CallP.fn (hA (fewB_I (by assumption))) ?_ | refine cY ?_ | refine cN ?_ | refine .not ?_ | refine wI ?_ | refine .map ?_ | refine .nil ?_ | refine .one ?_ | refine .app ?_ | refine .set ?_ | refine .rep ?_ | refine .any ?_ | refine cI ?_ | refine cJ ?_ | refine cYa ?_ | refine cNa ?_ | refine cIa ?_ | refine cJa ?_ | refine cIr ?_ | refine cId ?_ | refine cJd ?_ | with_reducible refine CondN.and ?_ | with_reducible refine CondN.or ?_ | refine CondN.lt (fun hc => ?_) (fun hc => ?_) | refine CondN.le (fun hc => ?_) (fun hc => ?_) | refine CondN.dec (fun hc => ?_) (fun hc => ?_) | refine CondN.any (fun hc => ?_) (fun hc => ?_) | refine nS ?_ | refine iA ?_ | refine iB ?_ | refine iC fun x hx => ?_ | refine iD fun x hx => ?_ | refine iE ?_ | refine iF ?_ | refine iG ?_ | refine iH fun x hx => ?_ | refine iI fun x hx => ?_ | refine iJ ?_ | refine hB ?_ | refine aP ?_ | refine .last ?_ | refine .last2 ?_ | refine zN fun k hk => ?_ | refine aR fun k hk => ?_ | refine mA ?_ | refine mS (fun hc => ?_) (fun hc => ?_) | refine RetP.nrm ?_) <;> conv => whnf)
    have q1 := fewF_le (l := stack) (by assumption)
    have q2 := hlen (fewB_I (by assumption))
    conv => whnf
    repeat' ((first | refine CallN.fn (awake22) ?_ | refine CallP.fn (awake22) ?_ | refine cY ?_ | refine cN ?_ | refine .not ?_ | refine wI ?_ | refine .map ?_ | refine .nil ?_ | refine .one ?_ | refine .app ?_ | refine .set ?_ | refine .rep ?_ | refine .any ?_ | refine cI ?_ | refine cJ ?_ | refine cYa ?_ | refine cNa ?_ | refine cIa ?_ | refine cJa ?_ | refine cIr ?_ | refine cId ?_ | refine cJd ?_ | with_reducible refine CondN.and ?_ | with_reducible refine CondN.or ?_ | refine CondN.lt (fun hc => ?_) (fun hc => ?_) | refine CondN.le (fun hc => ?_) (fun hc => ?_) | refine CondN.dec (fun hc => ?_) (fun hc => ?_) | refine CondN.any (fun hc => ?_) (fun hc => ?_) | refine nS ?_ | refine iA ?_ | refine iB ?_ | refine iC fun x hx => ?_ | refine iD fun x hx => ?_ | refine iE ?_ | refine iF ?_ | refine iG ?_ | refine iH fun x hx => ?_ | refine iI fun x hx => ?_ | refine iJ ?_ | refine hB ?_ | refine aP ?_ | refine .last ?_ | refine .last2 ?_ | refine zN fun k hk => ?_ | refine aR fun k hk => ?_ | refine mA ?_ | refine mS (fun hc => ?_) (fun hc => ?_) | refine RetP.nrm ?_) <;> conv => whnf)
  · rw [if_neg hb] at hP
    have hS0 : (stack ++ ids.reverse.map frm).length = stack.length + ids.length := by simp
    have hSi : ∀ (i : Nat) x, ids[i]? = some x → (stack ++ ids.reverse.map frm)[(((stack ++ ids.reverse.map frm).length : Int) - 1 - i).toNat]? = some (frm x) := fun i x hx => by
      have hi := (List.getElem?_eq_some_iff.1 hx).1
      rw [hS0, show (((stack.length + ids.length : Nat) : Int) - 1 - i).toNat = stack.length + (ids.length - 1 - i) by omega, List.getElem?_append_right (by omega)]
      rw [show stack.length + (ids.length - 1 - i) - stack.length = ids.length - 1 - i by omega, List.getElem?_map, List.getElem?_reverse (by omega), show ids.length - 1 - (ids.length - 1 - i) = i by omega, hx]
      rfl
    have hF : Fun Try.prog 35 [.sl .no (List.drop (Int.toNat 0) (List.take ((stack.length : Int)).toNat (List.map Fm.av (stack ++ ids.reverse.map frm)))), slA Fm.av stack] (.bool true) := by
      have := lawFrames_ok (a := stack) (b := stack)
      rw [framesB_refl] at this
      rw [show List.drop (Int.toNat 0) (List.take ((stack.length : Int)).toNat (List.map Fm.av (stack ++ ids.reverse.map frm))) = List.map Fm.av stack by simp]
      exact this
    simp only at hP
    generalize stack ++ ids.reverse.map frm = S at hP hS0 hSi hF
    refine Fun.of (op_constraintlaw22_WakeTops (by simp) ?_) rfl rfl
    conv => whnf
    conv => whnf
    repeat' ((first | refine CallN.fn (fewItems_ok) ?_ | refine CallP.fn (fewItems_ok) ?_ | refine CallN.fn (fewF_ok) ?_ | refine CallP.fn (fewF_ok) ?_ | refine CallN.fn (awake22) ?_ | refine CallP.fn (awake22) ?_ | refine CallN.fn (hP (fewB_I (by assumption)) (by have := fewF_le (l := stack) (by assumption); omega)) ?_ | refine CallP.fn (hP (fewB_I (by assumption)) (by have := fewF_le (l := stack) (by assumption); omega)) ?_ | refine CallN.fn (hA (fewB_I (by assumption))) ?_ | refine CallP.fn (hA (fewB_I (by assumption))) ?_ | refine CallN.fn (hF) ?_ | refine CallP.fn (hF) ?_ | refine cY ?_ | refine cN ?_ | refine .not ?_ | refine wI ?_ | refine .map ?_ | refine .nil ?_ | refine .one ?_ | refine .app ?_ | refine .set ?_ | refine .rep ?_ | refine .any ?_ | refine cI ?_ | refine cJ ?_ | refine cYa ?_ | refine cNa ?_ | refine cIa ?_ | refine cJa ?_ | refine cIr ?_ | refine cId ?_ | refine cJd ?_ | with_reducible refine CondN.and ?_ | with_reducible refine CondN.or ?_ | refine CondN.lt (fun hc => ?_) (fun hc => ?_) | refine CondN.le (fun hc => ?_) (fun hc => ?_) | refine CondN.dec (fun hc => ?_) (fun hc => ?_) | refine CondN.any (fun hc => ?_) (fun hc => ?_) | refine nS ?_ | refine iA ?_ | refine iB ?_ | refine iC fun x hx => ?_ | refine iD fun x hx => ?_ | refine iE ?_ | refine iF ?_ | refine iG ?_ | refine iH fun x hx => ?_ | refine iI fun x hx => ?_ | refine iJ ?_ | refine hB ?_ | refine aP ?_ | refine .last ?_ | refine .last2 ?_ | refine zN fun k hk => ?_ | refine aR fun k hk => ?_ | refine mA ?_ | refine mS (fun hc => ?_) (fun hc => ?_) | refine RetP.nrm ?_) <;> conv => whnf)
    have q1 := fewF_le (l := stack) (by assumption)
    have q2 := hlen (fewB_I (by assumption))
    refine LoopP.count (fb := true) (ids.length) (fun st_ i => st_.sets [(74, .int .i64 i)]) (fun i => True) ?_ ?_ (fun i hi hii => ?_) (fun hii => ?_)
    · trivial
    · refine EndN.at_ ?_ rfl
      conv => whnf
      refine And.intro ?_ ?_ <;> conv => whnf
      all_goals repeat' ((first | refine vE ?_ | refine vI ?_ | refine vB ?_ | refine vC ?_ | refine vN ?_ | refine xB ?_ | exact True.intro | ((first | refine WkN.sl ?_ ?_ | refine vD ?_ ?_ | refine WkN.norm ?_ ?_ | refine BxN.mk ?_ ?_); (focus (simp [AV.norm, AV.norm1, ]; done)))) <;> conv => whnf)
    · obtain ⟨x, hx⟩ : ∃ x, ids[i]? = some x := ⟨_, List.getElem?_eq_getElem hi⟩
      have hxi := hSi i x hx
      have hfi : (frm x).id = x := rfl
      have hfo : (frm x).occ = -1 := rfl
      have hpr : ∀ y, ids[((i : Int) - 1).toNat]? = some y → 0 < (i : Int) → y < x := fun y hy h0 => by
        obtain ⟨h2, rfl⟩ := List.getElem?_eq_some_iff.1 hx
        obtain ⟨h3, rfl⟩ := List.getElem?_eq_some_iff.1 hy
        exact List.pairwise_iff_getElem.1 hasc _ _ h3 h2 (by omega)
      conv => whnf
      repeat' ((first | refine cY ?_ | refine cN ?_ | refine .not ?_ | refine wI ?_ | refine .map ?_ | refine .nil ?_ | refine .one ?_ | refine .app ?_ | refine .set ?_ | refine .rep ?_ | refine .any ?_ | refine cI ?_ | refine cJ ?_ | refine cYa ?_ | refine cNa ?_ | refine cIa ?_ | refine cJa ?_ | refine cIr ?_ | refine cId ?_ | refine cJd ?_ | with_reducible refine CondN.and ?_ | with_reducible refine CondN.or ?_ | refine CondN.lt (fun hc => ?_) (fun hc => ?_) | refine CondN.le (fun hc => ?_) (fun hc => ?_) | refine CondN.dec (fun hc => ?_) (fun hc => ?_) | refine CondN.any (fun hc => ?_) (fun hc => ?_) | refine nS ?_ | refine iA ?_ | refine iB ?_ | refine iC fun x hx => ?_ | refine iD fun x hx => ?_ | refine iE ?_ | refine iF ?_ | refine iG ?_ | refine iH fun x hx => ?_ | refine iI fun x hx => ?_ | refine iJ ?_ | refine hB ?_ | refine aP ?_ | refine .last ?_ | refine .last2 ?_ | refine zN fun k hk => ?_ | refine aR fun k hk => ?_ | refine mA ?_ | refine mS (fun hc => ?_) (fun hc => ?_) | refine RetP.nrm ?_) <;> conv => whnf)
      · have := hpr _ (by assumption) (by assumption); omega
      · refine ⟨trivial, ?_⟩
        refine EndN.at_ ?_ rfl
        conv => whnf
        refine And.intro ?_ ?_ <;> conv => whnf
        all_goals repeat' ((first | refine vE ?_ | refine vI ?_ | refine vB ?_ | refine vC ?_ | refine vN ?_ | refine xB ?_ | exact True.intro | ((first | refine WkN.sl ?_ ?_ | refine vD ?_ ?_ | refine WkN.norm ?_ ?_ | refine BxN.mk ?_ ?_); (focus (simp [AV.norm, AV.norm1, ]; done)))) <;> conv => whnf)
      · refine ⟨trivial, ?_⟩
        refine EndN.at_ ?_ rfl
        conv => whnf
        refine And.intro ?_ ?_ <;> conv => whnf
        all_goals repeat' ((first | refine vE ?_ | refine vI ?_ | refine vB ?_ | refine vC ?_ | refine vN ?_ | refine xB ?_ | exact True.intro | ((first | refine WkN.sl ?_ ?_ | refine vD ?_ ?_ | refine WkN.norm ?_ ?_ | refine BxN.mk ?_ ?_); (focus (simp [AV.norm, AV.norm1, ]; done)))) <;> conv => whnf)
    · conv => whnf
      repeat' ((first | refine CallN.fn (awake22) ?_ | refine CallP.fn (awake22) ?_ | refine cY ?_ | refine cN ?_ | refine .not ?_ | refine wI ?_ | refine .map ?_ | refine .nil ?_ | refine .one ?_ | refine .app ?_ | refine .set ?_ | refine .rep ?_ | refine .any ?_ | refine cI ?_ | refine cJ ?_ | refine cYa ?_ | refine cNa ?_ | refine cIa ?_ | refine cJa ?_ | refine cIr ?_ | refine cId ?_ | refine cJd ?_ | with_reducible refine CondN.and ?_ | with_reducible refine CondN.or ?_ | refine CondN.lt (fun hc => ?_) (fun hc => ?_) | refine CondN.le (fun hc => ?_) (fun hc => ?_) | refine CondN.dec (fun hc => ?_) (fun hc => ?_) | refine CondN.any (fun hc => ?_) (fun hc => ?_) | refine nS ?_ | refine iA ?_ | refine iB ?_ | refine iC fun x hx => ?_ | refine iD fun x hx => ?_ | refine iE ?_ | refine iF ?_ | refine iG ?_ | refine iH fun x hx => ?_ | refine iI fun x hx => ?_ | refine iJ ?_ | refine hB ?_ | refine aP ?_ | refine .last ?_ | refine .last2 ?_ | refine zN fun k hk => ?_ | refine aR fun k hk => ?_ | refine mA ?_ | refine mS (fun hc => ?_) (fun hc => ?_) | refine RetP.nrm ?_) <;> conv => whnf)
set_option maxRecDepth 100000 in
theorem wakeLess_ok {l : List It} {vars more : List Int} : Fun Try.prog 8 [slA It.av l, slA intA vars, slA intA more] (.bool true) := by
  have hA := fun (h : FewI l) => affected_ok (l := l) (vars := vars ++ more) h
  rw [show slA intA (vars ++ more) = .sl .no ([] ++ List.map intA vars ++ List.map intA more) by simp] at hA
  refine Fun.of (op_constraintlaw22_WakeLess (by simp) ?_) rfl rfl
  conv => whnf
  conv => whnf
  repeat' ((first | refine CallN.fn (fewItems_ok) ?_ | refine CallP.fn (fewItems_ok) ?_ | refine CallN.fn (awake22) ?_ | refine CallP.fn (awake22) ?_ | refine CallN.fn (affected_ok (l := l) (vars := vars) (fewB_I (by assumption))) ?_ | refine CallP.fn (affected_ok (l := l) (vars := vars) (fewB_I (by assumption))) ?_ | refine CallN.fn (hA (fewB_I (by assumption))) ?_ | refine CallP.fn (hA (fewB_I (by assumption))) ?_ | refine cY ?_ | refine cN ?_ | refine .not ?_ | refine wI ?_ | refine .map ?_ | refine .nil ?_ | refine .one ?_ | refine .app ?_ | refine .set ?_ | refine .rep ?_ | refine .any ?_ | refine cI ?_ | refine cJ ?_ | refine cYa ?_ | refine cNa ?_ | refine cIa ?_ | refine cJa ?_ | refine cIr ?_ | refine cId ?_ | refine cJd ?_ | with_reducible refine CondN.and ?_ | with_reducible refine CondN.or ?_ | refine CondN.lt (fun hc => ?_) (fun hc => ?_) | refine CondN.le (fun hc => ?_) (fun hc => ?_) | refine CondN.dec (fun hc => ?_) (fun hc => ?_) | refine CondN.any (fun hc => ?_) (fun hc => ?_) | refine nS ?_ | refine iA ?_ | refine iB ?_ | refine iC fun x hx => ?_ | refine iD fun x hx => ?_ | refine iE ?_ | refine iF ?_ | refine iG ?_ | refine iH fun x hx => ?_ | refine iI fun x hx => ?_ | refine iJ ?_ | refine hB ?_ | refine aP ?_ | refine .last ?_ | refine .last2 ?_ | refine zN fun k hk => ?_ | refine aR fun k hk => ?_ | refine mA ?_ | refine mS (fun hc => ?_) (fun hc => ?_) | refine RetP.nrm ?_) <;> conv => whnf)
  have hI : FewI l := fewB_I (by assumption)
  have q2 := affI_len (vars := vars) hI
  have hn : (affI l []).length = 0 := by rw [aff_nil]; rfl
  refine LoopP.count (fb := true) ((affI l vars).length) (fun st_ i => st_.sets [(38, .int .i64 i)]) (fun i => True) ?_ ?_ (fun i hi hii => ?_) (fun hii => ?_)
  · trivial
  · refine EndN.at_ ?_ rfl
    conv => whnf
    refine And.intro ?_ ?_ <;> conv => whnf
    all_goals repeat' ((first | refine vE ?_ | refine vI ?_ | refine vB ?_ | refine vC ?_ | refine vN ?_ | refine xB ?_ | exact True.intro | ((first | refine WkN.sl ?_ ?_ | refine vD ?_ ?_ | refine WkN.norm ?_ ?_ | refine BxN.mk ?_ ?_); (focus (simp [AV.norm, AV.norm1, ]; done)))) <;> conv => whnf)
  · obtain ⟨x, hx⟩ : ∃ x, (affI l vars)[i]? = some x := ⟨_, List.getElem?_eq_getElem hi⟩
    have hxm := List.mem_of_getElem? hx
    have hm : x ∈ affI l (vars ++ more) := aff_more hxm
    have hone := aff_one hxm
    conv => whnf
    repeat' ((first | refine CallN.fn (lawIn_ok (l := affI l (vars ++ more)) (n := x)) ?_ | refine CallP.fn (lawIn_ok (l := affI l (vars ++ more)) (n := x)) ?_ | refine cY ?_ | refine cN ?_ | refine .not ?_ | refine wI ?_ | refine .map ?_ | refine .nil ?_ | refine .one ?_ | refine .app ?_ | refine .set ?_ | refine .rep ?_ | refine .any ?_ | refine cI ?_ | refine cJ ?_ | refine cYa ?_ | refine cNa ?_ | refine cIa ?_ | refine cJa ?_ | refine cIr ?_ | refine cId ?_ | refine cJd ?_ | with_reducible refine CondN.and ?_ | with_reducible refine CondN.or ?_ | refine CondN.lt (fun hc => ?_) (fun hc => ?_) | refine CondN.le (fun hc => ?_) (fun hc => ?_) | refine CondN.dec (fun hc => ?_) (fun hc => ?_) | refine CondN.any (fun hc => ?_) (fun hc => ?_) | refine nS ?_ | refine iA ?_ | refine iB ?_ | refine iC fun x hx => ?_ | refine iD fun x hx => ?_ | refine iE ?_ | refine iF ?_ | refine iG ?_ | refine iH fun x hx => ?_ | refine iI fun x hx => ?_ | refine iJ ?_ | refine hB ?_ | refine aP ?_ | refine .last ?_ | refine .last2 ?_ | refine zN fun k hk => ?_ | refine aR fun k hk => ?_ | refine mA ?_ | refine mS (fun hc => ?_) (fun hc => ?_) | refine RetP.nrm ?_) <;> conv => whnf)
    refine LoopP.count (fb := true) vars.length (fun st_ k => st_.sets [(10, .bool ((vars.take k).any fun v => decide (x ∈ affI l [v]))), (50, .int .i64 k)]) (fun _ => True) trivial ?_ (fun k hk _ => ?_) (fun _ => ?_)
    · refine EndN.at_ ?_ rfl
      conv => whnf
      refine And.intro ?_ ?_ <;> conv => whnf
      all_goals repeat' ((first | refine vE ?_ | refine vI ?_ | refine vB ?_ | refine vC ?_ | refine vN ?_ | refine xB ?_ | exact True.intro | ((first | refine WkN.sl ?_ ?_ | refine vD ?_ ?_ | refine WkN.norm ?_ ?_ | refine BxN.mk ?_ ?_); (focus (simp [AV.norm, AV.norm1, ]; done)))) <;> conv => whnf)
    · obtain ⟨v, hv⟩ : ∃ v, vars[k]? = some v := ⟨_, List.getElem?_eq_getElem hk⟩
      have htk : vars.take (k + 1) = vars.take k ++ [v] := by
        rw [List.take_succ_eq_append_getElem hk, (List.getElem?_eq_some_iff.1 hv).2]
      have hV : Fun Try.prog 30 [slA It.av l, .sl .no (List.drop ((k : Int)).toNat (List.take ((k : Int) + 1).toNat (List.map intA vars)))] (slA intA (affI l [v])) := by
        have := affected_ok (l := l) (vars := [v]) hI
        rw [show List.drop ((k : Int)).toNat (List.take ((k : Int) + 1).toNat (List.map intA vars)) = [v].map intA by
          rw [show ((k : Int) + 1).toNat = k + 1 by omega, show ((k : Int)).toNat = k by omega, ← List.map_take, ← List.map_drop, htk]
          simp [Nat.min_eq_left (Nat.le_of_lt hk)]]
        exact this
      have e1 : ((vars.take k).any fun v => decide (x ∈ affI l [v])) = true → true = ((vars.take (k + 1)).any fun v => decide (x ∈ affI l [v])) := fun h => by rw [htk, List.any_append, h]; rfl
      have e2 : ((vars.take k).any fun v => decide (x ∈ affI l [v])) = false → decide (x ∈ affI l [v]) = ((vars.take (k + 1)).any fun v => decide (x ∈ affI l [v])) := fun h => by rw [htk, List.any_append, h]; simp
      conv => whnf
      repeat' ((first | refine CallN.fn (hV) ?_ | refine CallP.fn (hV) ?_ | refine CallN.fn (lawIn_ok (l := affI l [v]) (n := x)) ?_ | refine CallP.fn (lawIn_ok (l := affI l [v]) (n := x)) ?_ | refine cY ?_ | refine cN ?_ | refine .not ?_ | refine wI ?_ | refine .map ?_ | refine .nil ?_ | refine .one ?_ | refine .app ?_ | refine .set ?_ | refine .rep ?_ | refine .any ?_ | refine cI ?_ | refine cJ ?_ | refine cYa ?_ | refine cNa ?_ | refine cIa ?_ | refine cJa ?_ | refine cIr ?_ | refine cId ?_ | refine cJd ?_ | with_reducible refine CondN.and ?_ | with_reducible refine CondN.or ?_ | refine CondN.lt (fun hc => ?_) (fun hc => ?_) | refine CondN.le (fun hc => ?_) (fun hc => ?_) | refine CondN.dec (fun hc => ?_) (fun hc => ?_) | refine CondN.any (fun hc => ?_) (fun hc => ?_) | refine nS ?_ | refine iA ?_ | refine iB ?_ | refine iC fun x hx => ?_ | refine iD fun x hx => ?_ | refine iE ?_ | refine iF ?_ | refine iG ?_ | refine iH fun x hx => ?_ | refine iI fun x hx => ?_ | refine iJ ?_ | refine hB ?_ | refine aP ?_ | refine .last ?_ | refine .last2 ?_ | refine zN fun k hk => ?_ | refine aR fun k hk => ?_ | refine mA ?_ | refine mS (fun hc => ?_) (fun hc => ?_) | refine RetP.nrm ?_) <;> conv => whnf)
      · have e3 := e1 hc
        refine ⟨trivial, ?_⟩
        refine EndN.at_ ?_ rfl
        conv => whnf
        refine And.intro ?_ ?_ <;> conv => whnf
        all_goals repeat' ((first | refine vE ?_ | refine vI ?_ | refine vB ?_ | refine vC ?_ | refine vN ?_ | refine xB ?_ | exact True.intro | ((first | refine WkN.sl ?_ ?_ | refine vD ?_ ?_ | refine WkN.norm ?_ ?_ | refine BxN.mk ?_ ?_); (focus (simp [AV.norm, AV.norm1, ]; done)))) <;> conv => whnf)
      · have e3 := e2 hc
        refine ⟨trivial, ?_⟩
        refine EndN.at_ ?_ rfl
        conv => whnf
        refine And.intro ?_ ?_ <;> conv => whnf
        all_goals repeat' ((first | refine vE ?_ | refine vI ?_ | refine vB ?_ | refine vC ?_ | refine vN ?_ | refine xB ?_ | exact True.intro | ((first | refine WkN.sl ?_ ?_ | refine vD ?_ ?_ | refine WkN.norm ?_ ?_ | refine BxN.mk ?_ ?_); (focus (simp [AV.norm, AV.norm1, ]; done)))) <;> conv => whnf)
    · rw [List.take_length, hone]
      conv => whnf
      repeat' ((first | refine CallN.fn (awake22) ?_ | refine CallP.fn (awake22) ?_ | refine cY ?_ | refine cN ?_ | refine .not ?_ | refine wI ?_ | refine .map ?_ | refine .nil ?_ | refine .one ?_ | refine .app ?_ | refine .set ?_ | refine .rep ?_ | refine .any ?_ | refine cI ?_ | refine cJ ?_ | refine cYa ?_ | refine cNa ?_ | refine cIa ?_ | refine cJa ?_ | refine cIr ?_ | refine cId ?_ | refine cJd ?_ | with_reducible refine CondN.and ?_ | with_reducible refine CondN.or ?_ | refine CondN.lt (fun hc => ?_) (fun hc => ?_) | refine CondN.le (fun hc => ?_) (fun hc => ?_) | refine CondN.dec (fun hc => ?_) (fun hc => ?_) | refine CondN.any (fun hc => ?_) (fun hc => ?_) | refine nS ?_ | refine iA ?_ | refine iB ?_ | refine iC fun x hx => ?_ | refine iD fun x hx => ?_ | refine iE ?_ | refine iF ?_ | refine iG ?_ | refine iH fun x hx => ?_ | refine iI fun x hx => ?_ | refine iJ ?_ | refine hB ?_ | refine aP ?_ | refine .last ?_ | refine .last2 ?_ | refine zN fun k hk => ?_ | refine aR fun k hk => ?_ | refine mA ?_ | refine mS (fun hc => ?_) (fun hc => ?_) | refine RetP.nrm ?_) <;> conv => whnf)
      refine ⟨trivial, ?_⟩
      refine EndN.at_ ?_ rfl
      conv => whnf
      refine And.intro ?_ ?_ <;> conv => whnf
      all_goals repeat' ((first | refine vE ?_ | refine vI ?_ | refine vB ?_ | refine vC ?_ | refine vN ?_ | refine xB ?_ | exact True.intro | ((first | refine WkN.sl ?_ ?_ | refine vD ?_ ?_ | refine WkN.norm ?_ ?_ | refine BxN.mk ?_ ?_); (focus (simp [AV.norm, AV.norm1, ]; done)))) <;> conv => whnf)
  · conv => whnf
    repeat' ((first | refine CallN.fn (affected_ok (l := l) (vars := []) hI) ?_ | refine CallP.fn (affected_ok (l := l) (vars := []) hI) ?_ | refine CallN.fn (awake22) ?_ | refine CallP.fn (awake22) ?_ | refine cY ?_ | refine cN ?_ | refine .not ?_ | refine wI ?_ | refine .map ?_ | refine .nil ?_ | refine .one ?_ | refine .app ?_ | refine .set ?_ | refine .rep ?_ | refine .any ?_ | refine cI ?_ | refine cJ ?_ | refine cYa ?_ | refine cNa ?_ | refine cIa ?_ | refine cJa ?_ | refine cIr ?_ | refine cId ?_ | refine cJd ?_ | with_reducible refine CondN.and ?_ | with_reducible refine CondN.or ?_ | refine CondN.lt (fun hc => ?_) (fun hc => ?_) | refine CondN.le (fun hc => ?_) (fun hc => ?_) | refine CondN.dec (fun hc => ?_) (fun hc => ?_) | refine CondN.any (fun hc => ?_) (fun hc => ?_) | refine nS ?_ | refine iA ?_ | refine iB ?_ | refine iC fun x hx => ?_ | refine iD fun x hx => ?_ | refine iE ?_ | refine iF ?_ | refine iG ?_ | refine iH fun x hx => ?_ | refine iI fun x hx => ?_ | refine iJ ?_ | refine hB ?_ | refine aP ?_ | refine .last ?_ | refine .last2 ?_ | refine zN fun k hk => ?_ | refine aR fun k hk => ?_ | refine mA ?_ | refine mS (fun hc => ?_) (fun hc => ?_) | refine RetP.nrm ?_) <;> conv => whnf)
end Go.CK
