/-
  Texts of this claim joined (wip/gen/bundle.py), those declarations only that are needed: PlW PlX PlY. By an AI agent.
-/
import Derived.Test.YtamhnlajkncccaaBax
set_option linter.unusedSimpArgs false
set_option linter.unusedVariables false
namespace Go.CK
open Go.AM Go.Proofs
set_option maxRecDepth 100000 in
set_option maxHeartbeats 1000000 in
theorem planRights_law {p : Pg} {x : Pl} : Fun Try.prog 4 [p.av, x.av] (.bool true) := by
  have hlg := large_ok (p := p) (keys := [])
  cases hl : largeI p [] with
  | true =>
    rw [hl] at hlg
    refine Fun.of (op_constraintlaw29_PlanRights (by simp) ?_) rfl rfl
    conv => whnf
    conv => whnf
    repeat' ((first | (refine gF ?_; first | refine CallN.fn (hlg) ?_ | refine CallN.fn (example29_ok) ?_) | (refine gC ?_; refine cY ?_) | refine RetP.nrm ?_) <;> conv => whnf)
  | false =>
    rw [hl] at hlg
    obtain ⟨hp, _⟩ := fit_of hl
    refine Fun.of (op_constraintlaw29_PlanRights (by simp) ?_) rfl rfl
    conv => whnf
    conv => whnf
    repeat' ((first | (refine gF ?_; first | refine CallN.fn (hlg) ?_ | refine CallN.fn (example29_ok) ?_) | (refine gC ?_; first | refine cY ?_ | refine cN ?_ | (refine gD ?_; first | refine cI ?_ | refine cJ ?_) | refine CondN.lt (fun hc => ?_) (fun hc => ?_)) | (refine gL ?_; refine .map ?_) | refine RetP.nrm ?_) <;> conv => whnf)
    refine LoopP.count (fb := true) (x.known.length) (fun st_ j => st_.sets [(5, .int .i64 j)]) (fun _ => True) trivial ?_ (fun j hj _ => ?_) (fun _ => ?_)
    · refine EndN.at_ ?_ rfl
      conv => whnf
      refine And.intro ?_ ?_ <;> conv => whnf
      all_goals repeat' ((first | (refine gV ?_; first | refine vE ?_ | refine vI ?_) | (refine gX ?_; refine xB ?_) | exact True.intro) <;> conv => whnf)
    · obtain ⟨y, hy⟩ : ∃ y, x.known[j]? = some y := ⟨_, List.getElem?_eq_getElem hj⟩
      conv => whnf
      repeat' ((first | (refine gF ?_; refine CallN.fn (example29_ok) ?_) | (refine gC ?_; first | (refine gD ?_; refine cI ?_) | refine CondN.lt (fun hc => ?_) (fun hc => ?_)) | (refine gW ?_; refine wI ?_) | (refine gL ?_; refine .map ?_) | (refine gI ?_; (refine gM ?_; refine iE ?_)) | refine RetP.nrm ?_) <;> conv => whnf)
      refine ⟨trivial, ?_⟩
      refine EndN.at_ ?_ rfl
      conv => whnf
      refine And.intro ?_ ?_ <;> conv => whnf
      all_goals repeat' ((first | (refine gV ?_; first | refine vE ?_ | refine vI ?_) | (refine gX ?_; refine xB ?_) | exact True.intro) <;> conv => whnf)
    · conv => whnf
      repeat' ((first | (refine gC ?_; (refine gD ?_; refine cJ ?_)) | (refine gL ?_; refine .map ?_)) <;> conv => whnf)
      refine LoopP.count (fb := true) (x.tests.length) (fun st_ j => st_.sets [(6, .int .i64 j)]) (fun _ => True) trivial ?_ (fun j hj _ => ?_) (fun _ => ?_)
      · refine EndN.at_ ?_ rfl
        conv => whnf
        refine And.intro ?_ ?_ <;> conv => whnf
        all_goals repeat' ((first | (refine gV ?_; first | refine vE ?_ | refine vI ?_) | (refine gX ?_; refine xB ?_) | exact True.intro) <;> conv => whnf)
      · obtain ⟨y, hy⟩ : ∃ y, x.tests[j]? = some y := ⟨_, List.getElem?_eq_getElem hj⟩
        conv => whnf
        repeat' ((first | (refine gF ?_; refine CallN.fn (example29_ok) ?_) | (refine gC ?_; first | (refine gD ?_; refine cI ?_) | refine CondN.lt (fun hc => ?_) (fun hc => ?_)) | (refine gW ?_; refine wI ?_) | (refine gL ?_; refine .map ?_) | (refine gI ?_; (refine gM ?_; refine iE ?_)) | refine RetP.nrm ?_) <;> conv => whnf)
        refine ⟨trivial, ?_⟩
        refine EndN.at_ ?_ rfl
        conv => whnf
        refine And.intro ?_ ?_ <;> conv => whnf
        all_goals repeat' ((first | (refine gV ?_; first | refine vE ?_ | refine vI ?_) | (refine gX ?_; refine xB ?_) | exact True.intro) <;> conv => whnf)
      · conv => whnf
        repeat' ((first | (refine gG ?_; first | refine CallP.fn (right_ok (p := p) (x := x) hp (by omega) (by omega) (by omega)) ?_ | refine CallP.fn (refRight_ok (p := p) (x := x) hp (by omega)) ?_ | refine CallP.fn (example29_ok) ?_) | (refine gC ?_; (refine gD ?_; first | refine cJ ?_ | refine cIr ?_)) | (refine gL ?_; refine .map ?_) | refine RetP.nrm ?_) <;> conv => whnf)
def wideI (p : Pg) : Bool := p.rules.any fun r => r.heads.any fun h => decide ((6 : Int) < h.args.length)
set_option maxRecDepth 100000 in
set_option maxHeartbeats 1000000 in
theorem wide_ok {p : Pg} (hp : p.fit) : Fun Try.prog 11 [p.av] (.bool (wideI p)) := by
  have hpf := hp.few
  refine Fun.of (op_constraintlaw29_wide (by simp) ?_) rfl rfl
  conv => whnf
  conv => whnf
  skip
  refine LoopP.count (fb := true) (p.rules.length) (fun st_ j => st_.sets [(3, .int .i64 j)]) (fun j => ∀ i x, i < j → p.rules[i]? = some x → (x.heads.any fun h => decide ((6 : Int) < h.args.length)) = false) ?_ ?_ (fun j hj hij => ?_) (fun hij => ?_)
  · exact no_zero
  · refine EndN.at_ ?_ rfl
    conv => whnf
    refine And.intro ?_ ?_ <;> conv => whnf
    all_goals repeat' ((first | (refine gV ?_; first | refine vE ?_ | refine vI ?_) | (refine gX ?_; refine xB ?_) | exact True.intro) <;> conv => whnf)
  · obtain ⟨r, hr⟩ : ∃ r, p.rules[j]? = some r := ⟨_, List.getElem?_eq_getElem hj⟩
    have hr2 := hp.ok2 r (List.mem_of_getElem? hr)
    have hhl : r.heads.length ≤ 8 := by rw [Rl.heads_len]; exact hr2.1
    conv => whnf
    repeat' ((first | (refine gF ?_; refine CallN.fn (refHeads_ok (x := r) (by have := hr2.1; omega)) ?_) | (refine gC ?_; (refine gD ?_; refine cI ?_)) | (refine gL ?_; refine .map ?_) | (refine gI ?_; (refine gM ?_; refine iE ?_))) <;> conv => whnf)
    refine LoopP.count (fb := true) (r.heads.length) (fun st_ k => st_.sets [(5, .int .i64 k)]) (fun k => ∀ i x, i < k → r.heads[i]? = some x → decide ((6 : Int) < x.args.length) = false) ?_ ?_ (fun k hk hik => ?_) (fun hik => ?_)
    · exact no_zero
    · refine EndN.at_ ?_ rfl
      conv => whnf
      refine And.intro ?_ ?_ <;> conv => whnf
      all_goals repeat' ((first | (refine gV ?_; first | refine vE ?_ | refine vI ?_) | (refine gX ?_; refine xB ?_) | exact True.intro) <;> conv => whnf)
    · obtain ⟨h, hh⟩ : ∃ h, r.heads[k]? = some h := ⟨_, List.getElem?_eq_getElem hk⟩
      conv => whnf
      repeat' ((first | (refine gC ?_; first | (refine gD ?_; refine cI ?_) | refine CondN.lt (fun hc => ?_) (fun hc => ?_)) | (refine gW ?_; refine wI ?_) | (refine gL ?_; refine .map ?_) | (refine gI ?_; (refine gM ?_; refine iE ?_)) | refine RetP.nrm ?_) <;> conv => whnf)
      · rw [wideI, any_at hr (any_at hh (decide_eq_true hc))]
      · refine ⟨no_succ hik hh (decide_eq_false (by omega)), ?_⟩
        refine EndN.at_ ?_ rfl
        conv => whnf
        refine And.intro ?_ ?_ <;> conv => whnf
        all_goals repeat' ((first | (refine gV ?_; first | refine vE ?_ | refine vI ?_) | (refine gX ?_; refine xB ?_) | exact True.intro) <;> conv => whnf)
    · have hno := any_no hik
      conv => whnf
      repeat' ((first | (refine gC ?_; (refine gD ?_; refine cJ ?_)) | (refine gW ?_; refine wI ?_) | (refine gL ?_; refine .map ?_)) <;> conv => whnf)
      refine ⟨no_succ hij hr hno, ?_⟩
      refine EndN.atC 1 ?_ rfl rfl rfl rfl (by first | rfl | (repeat' (first | rfl | refine bLtRow (row_allI _ _ _) ?_ | refine bLtRow (row_allB _ _ _) ?_ | refine bLtMp ?_ | refine bLtDead ?_ | refine bLtCells rfl ?_)))
      conv => whnf
      refine And.intro ?_ ?_ <;> conv => whnf
      all_goals repeat' ((first | (refine gV ?_; first | refine vE ?_ | refine vI ?_) | (refine gX ?_; refine xB ?_) | exact True.intro) <;> conv => whnf)
  · conv => whnf
    repeat' ((first | (refine gC ?_; (refine gD ?_; refine cJ ?_)) | (refine gL ?_; refine .map ?_) | refine RetP.nrm ?_) <;> conv => whnf)
    rw [wideI, any_no hij]
theorem scoreTake_ok {p : Pg} {keys : List Ky} {rule : Int} {done : List Int} {head n : Int} (m : Nat) (hp : ∀ r ∈ p.rules, r.ok2) (hd : done.length ≤ 100000) (hk : keys.length ≤ 100000) (hn : n.toNat = m) : Fun Try.prog 9 [p.av, slA Ky.av keys, .int .i64 rule, .sl .no (List.drop (Int.toNat 0) (List.take n.toNat (done.map intA))), .int .i64 head] (.int .i64 (scoreP p keys rule (done.take m) head)) := by
  rw [slA_take hn]
  exact planScore_ok hp (by rw [List.length_take]; omega) hk
set_option maxRecDepth 100000 in
set_option maxHeartbeats 1000000 in
theorem planScores_law {p : Pg} {keys : List Ky} {x : Ak} : Fun Try.prog 3 [p.av, slA Ky.av keys, x.av] (.bool true) := by
  have hlg := large_ok (p := p) (keys := keys)
  cases hl : largeI p keys with
  | true =>
    rw [hl] at hlg
    refine Fun.of (op_constraintlaw29_PlanScores (by simp) ?_) rfl rfl
    conv => whnf
    conv => whnf
    repeat' ((first | (refine gF ?_; first | refine CallN.fn (hlg) ?_ | refine CallN.fn (example29_ok) ?_) | (refine gC ?_; refine cY ?_) | refine RetP.nrm ?_) <;> conv => whnf)
  | false =>
    rw [hl] at hlg
    obtain ⟨hp, h8, _, hk10, hkp, _⟩ := fit_of hl
    by_cases hd : (10 : Int) < x.done.length
    · refine Fun.of (op_constraintlaw29_PlanScores (by simp) ?_) rfl rfl
      conv => whnf
      conv => whnf
      repeat' ((first | (refine gF ?_; first | refine CallN.fn (hlg) ?_ | refine CallN.fn (example29_ok) ?_) | (refine gC ?_; first | refine cN ?_ | (refine gD ?_; refine cI ?_)) | (refine gL ?_; refine .map ?_) | refine RetP.nrm ?_) <;> conv => whnf)
    · have hwd := wide_ok hp
      have hsc := planScore_ok (p := p) (keys := keys) (rule := x.rule) (done := x.done) (head := x.head) hp.ok2 (by omega) (by omega)
      have hsr := refScore_ok (p := p) (keys := keys) (rule := x.rule) (done := x.done) (head := x.head) hp.ok2 (by omega) (by omega) (fun k hk => by have := hkp k hk; omega)
      cases hw : wideI p with
      | true =>
        rw [hw] at hwd
        refine Fun.of (op_constraintlaw29_PlanScores (by simp) ?_) rfl rfl
        conv => whnf
        conv => whnf
        repeat' ((first | (refine gF ?_; first | refine CallN.fn (hlg) ?_ | refine CallN.fn (hsc) ?_ | refine CallN.fn (hsr) ?_) | (refine gC ?_; first | refine cN ?_ | refine .not ?_ | (refine gD ?_; first | refine cI ?_ | refine cJ ?_)) | (refine gL ?_; refine .map ?_)) <;> conv => whnf)
        refine LoopP.count (fb := true) 0 (fun st_ j => st_.sets [(8, .int .i64 j)]) (fun _ => True) trivial ?_ (fun j hj _ => by omega) (fun _ => ?_)
        · refine EndN.at_ ?_ rfl
          conv => whnf
          refine And.intro ?_ ?_ <;> conv => whnf
          all_goals repeat' ((first | (refine gV ?_; first | refine vE ?_ | refine vI ?_) | (refine gX ?_; refine xB ?_) | exact True.intro) <;> conv => whnf)
        · conv => whnf
          repeat' ((first | (refine gF ?_; first | refine CallN.fn (hwd) ?_ | refine CallN.fn (example29_ok) ?_) | (refine gC ?_; first | refine cY ?_ | refine cN ?_ | refine .not ?_ | (refine gD ?_; first | refine cI ?_ | refine cJ ?_) | refine CondN.lt (fun hc => ?_) (fun hc => ?_)) | (refine gL ?_; refine .map ?_) | refine RetP.nrm ?_) <;> conv => whnf)
      | false =>
        rw [hw] at hwd
        refine Fun.of (op_constraintlaw29_PlanScores (by simp) ?_) rfl rfl
        conv => whnf
        conv => whnf
        repeat' ((first | (refine gF ?_; first | refine CallN.fn (hlg) ?_ | refine CallN.fn (hsc) ?_ | refine CallN.fn (hsr) ?_) | (refine gC ?_; first | refine cN ?_ | refine .not ?_ | (refine gD ?_; first | refine cI ?_ | refine cJ ?_)) | (refine gL ?_; refine .map ?_)) <;> conv => whnf)
        have hwm : ∀ r ∈ p.rules, ∀ h ∈ r.heads, h.args.length ≤ 10 := fun r hr h hh => by
          rw [wideI, List.any_eq_false] at hw
          have h1 := hw r hr
          rw [Bool.not_eq_true, List.any_eq_false] at h1
          have h2 := h1 h hh
          simp only [decide_eq_true_eq] at h2
          omega
        refine LoopP.count (fb := true) (x.done.length) (fun st_ j => st_.sets [(8, .int .i64 j)]) (fun _ => True) trivial ?_ (fun j hj _ => ?_) (fun _ => ?_)
        · refine EndN.at_ ?_ rfl
          conv => whnf
          refine And.intro ?_ ?_ <;> conv => whnf
          all_goals repeat' ((first | (refine gV ?_; first | refine vE ?_ | refine vI ?_) | (refine gX ?_; refine xB ?_) | exact True.intro) <;> conv => whnf)
        · have hm := scoreP_mono (p := p) (keys := keys) (rule := x.rule) (done := x.done) (head := x.head) hwm j
          conv => whnf
          repeat' ((first | (refine gF ?_; refine CallN.fn (hwd) ?_) | (refine gG ?_; refine CallP.fn (scoreTake_ok (p := p) (keys := keys) (rule := x.rule) (done := x.done) (head := x.head) j hp.ok2 (by omega) (by omega) (by omega)) ?_) | (refine gC ?_; first | refine cN ?_ | refine .not ?_ | (refine gD ?_; first | refine cI ?_ | refine cJ ?_)) | (refine gW ?_; refine wI ?_) | (refine gL ?_; refine .map ?_) | (refine gN ?_; refine nS ?_)) <;> conv => whnf)
          refine ⟨trivial, ?_⟩
          refine EndN.at_ ?_ rfl
          conv => whnf
          refine And.intro ?_ ?_ <;> conv => whnf
          all_goals repeat' ((first | (refine gV ?_; first | refine vE ?_ | refine vI ?_) | (refine gX ?_; refine xB ?_) | exact True.intro) <;> conv => whnf)
        · conv => whnf
          repeat' ((first | (refine gF ?_; refine CallN.fn (example29_ok) ?_) | (refine gC ?_; first | refine cN ?_ | (refine gD ?_; refine cJ ?_)) | (refine gL ?_; refine .map ?_) | refine RetP.nrm ?_) <;> conv => whnf)
end Go.CK

set_option linter.unusedSimpArgs false
set_option linter.unusedVariables false
namespace Go.CK
open Go.AM Go.Proofs
theorem doneT_take (r : Rl) (keys : List Ky) (o : Int) : ∀ {m k : Nat}, m ≤ k → (doneT r keys o k).take (m + 1) = doneT r keys o m
  | m, 0, h => by
    obtain rfl : m = 0 := by omega
    rfl
  | m, k + 1, h => by
    rcases Nat.lt_or_eq_of_le h with q | q
    · rw [doneT, List.take_append_of_le_length (by rw [doneT_len]; omega)]
      exact doneT_take r keys o (by omega)
    · subst q
      rw [List.take_of_length_le (by rw [doneT_len]; omega)]
theorem orderT_len {r : Rl} {keys : List Ky} {o : Int} (h0 : 0 ≤ o) (h1 : o < r.heads.length) : (orderT r keys o).length = r.heads.length - 1 := by
  rw [orderT, List.length_drop, doneT_len]; omega
theorem orderT_take {r : Rl} {keys : List Ky} {o : Int} {k : Nat} (hk : k ≤ r.heads.length - 1) : o :: (orderT r keys o).take k = doneT r keys o k := by
  rw [← doneT_take r keys o hk, orderT]
  conv => rhs; rw [doneT_head r keys o (r.heads.length - 1)]
  rfl
theorem orderT_at {r : Rl} {keys : List Ky} {o : Int} {k : Nat} (hk : k < r.heads.length - 1) : (orderT r keys o)[k]? = some (bestT r keys (doneT r keys o k) r.heads.length).1 := by
  rw [orderT, List.getElem?_drop]
  have h1 := doneT_take r keys o (m := k + 1) (k := r.heads.length - 1) (by omega)
  have h2 : (doneT r keys o (k + 1))[1 + k]? = some (bestT r keys (doneT r keys o k) r.heads.length).1 := by
    rw [doneT, List.getElem?_append_right (by rw [doneT_len]; omega), doneT_len, show 1 + k - (k + 1) = 0 by omega]
    rfl
  rw [← h1, List.getElem?_take_of_lt (by omega)] at h2
  exact h2
/-- each head of the order has the greatest score of those that remain -/
theorem greedy_ok {p : Pg} {r : Rl} {keys : List Ky} {o : Oc} {k j : Nat} {a b : Int} (h0 : 0 ≤ o.head) (h1 : o.head < r.heads.length) (hr0 : 0 ≤ o.rule) (hr : p.rules[o.rule.toNat]? = some r) (hkj : k < j) (ha : (orderT r keys o.head)[k]? = some a) (hb : (orderT r keys o.head)[j]? = some b) :
    scoreP p keys o.rule (o.head :: (orderT r keys o.head).take k) b ≤ scoreP p keys o.rule (o.head :: (orderT r keys o.head).take k) a ∧ (scoreP p keys o.rule (o.head :: (orderT r keys o.head).take k) b = scoreP p keys o.rule (o.head :: (orderT r keys o.head).take k) a → a ≤ b) := by
  have hol := orderT_len (r := r) (keys := keys) h0 h1
  have hjl := (List.getElem?_eq_some_iff.1 hb).1
  rw [orderT_take (by omega)]
  rw [orderT_at (by omega)] at ha
  cases ha
  obtain ⟨c, h, hc, hh, hn, hbe, hmax⟩ := best_left (r := r) (keys := keys) (done := doneT r keys o.head k) (by rw [doneT_len]; omega)
  obtain ⟨q1, q2⟩ := doneT_ok (r := r) (keys := keys) h0 h1 (k := r.heads.length - 1) (by omega)
  have hbd : b ∈ doneT r keys o.head (r.heads.length - 1) := by
    rw [doneT_head]; exact List.mem_cons_of_mem _ (List.mem_of_getElem? hb)
  obtain ⟨b0, b1⟩ := q2 b hbd
  have hbn : ¬ b ∈ doneT r keys o.head k := fun hm => by
    have e1 : doneT r keys o.head (r.heads.length - 1) = doneT r keys o.head k ++ (doneT r keys o.head (r.heads.length - 1)).drop (k + 1) := by
      rw [← doneT_take r keys o.head (m := k) (k := r.heads.length - 1) (by omega), List.take_append_drop]
    rw [e1] at q1
    refine (List.nodup_append.1 q1).2.2 b hm b ?_ rfl
    refine List.mem_of_getElem? (i := j - k) ?_
    rw [List.getElem?_drop]
    have : (orderT r keys o.head)[j]? = (doneT r keys o.head (r.heads.length - 1))[1 + j]? := by rw [orderT, List.getElem?_drop]
    rw [this] at hb
    rw [show k + 1 + (j - k) = 1 + j by omega]; exact hb
  obtain ⟨g, hg⟩ : ∃ g, r.heads[b.toNat]? = some g := ⟨_, List.getElem?_eq_getElem (by omega)⟩
  have hm := hmax b.toNat g (by omega) hg (by rw [Int.toNat_of_nonneg b0]; exact hbn)
  rw [Int.toNat_of_nonneg b0] at hm
  rw [hbe]
  have e2 : scoreP p keys o.rule (doneT r keys o.head k) b = scoreI r keys (doneT r keys o.head k) b g := by
    rw [scoreP, if_neg (by omega), hr]
    simp only
    rw [if_neg (by omega), hg]
  have e3 : scoreP p keys o.rule (doneT r keys o.head k) (c : Int) = scoreI r keys (doneT r keys o.head k) c h := by
    rw [scoreP, if_neg (by omega), hr]
    simp only
    rw [if_neg (by omega), Int.toNat_natCast, hh]
  rw [e2, e3]
  exact ⟨hm.1, fun e => by have := hm.2 e; omega⟩
set_option maxRecDepth 100000 in
set_option maxHeartbeats 2000000 in
theorem planGreedy_law {p : Pg} {keys : List Ky} : Fun Try.prog 5 [p.av, slA Ky.av keys] (.bool true) := by
  have hlg := large_ok (p := p) (keys := keys)
  cases hl : largeI p keys with
  | true =>
    rw [hl] at hlg
    refine Fun.of (op_constraintlaw29_PlanGreedy (by simp) ?_) rfl rfl
    conv => whnf
    conv => whnf
    repeat' ((first | (refine gF ?_; first | refine CallN.fn (hlg) ?_ | refine CallN.fn (example29_ok) ?_) | (refine gC ?_; refine cY ?_) | refine RetP.nrm ?_) <;> conv => whnf)
  | false =>
    rw [hl] at hlg
    obtain ⟨hp, h8, hoc, hk10, hkp, _⟩ := fit_of hl
    have hal := refAll_ok hp.ok hp.few
    have hmem : ∀ o ∈ p.occs, o ∈ p.occs := fun o h => h
    generalize hocs : p.occs = ocl at hal hmem hoc
    refine Fun.of (op_constraintlaw29_PlanGreedy (by simp) ?_) rfl rfl
    conv => whnf
    conv => whnf
    repeat' ((first | (refine gF ?_; first | refine CallN.fn (hlg) ?_ | refine CallN.fn (hal) ?_) | (refine gC ?_; refine cN ?_)) <;> conv => whnf)
    refine LoopP.count (fb := true) (ocl.length) (fun st_ i => st_.sets [(6, .int .i64 i)]) (fun _ => True) trivial ?_ (fun i hi _ => ?_) (fun _ => ?_)
    · refine EndN.at_ ?_ rfl
      conv => whnf
      refine And.intro ?_ ?_ <;> conv => whnf
      all_goals repeat' ((first | (refine gV ?_; first | refine vE ?_ | refine vI ?_) | (refine gX ?_; refine xB ?_) | exact True.intro) <;> conv => whnf)
    · obtain ⟨o, ho⟩ : ∃ o, ocl[i]? = some o := ⟨_, List.getElem?_eq_getElem hi⟩
      have hop : o ∈ p.occs := by rw [hocs]; exact List.mem_of_getElem? ho
      obtain ⟨r, hr, h1, h2, h3, h4⟩ := occs_mem hop
      have hx := of_ok (p := p) (keys := keys) (o := o) hp (by omega)
      have hxr := right_of (keys := keys) hop
      have hxe : ofI p keys o = planI r o (orderT r keys o.head) := by rw [ofI, if_pos hop, hr]
      have hpa : p.partners o = others o.head r.heads.length := by rw [Pg.partners_at hr h1, if_neg (by omega)]
      have hpal : (p.partners o).length = (orderT r keys o.head).length := by
        rw [hpa, orderT_len h2 h3]
        have := (upI_perm h2 h3).length_eq
        rw [upI_len, List.length_cons] at this
        omega
      have hpr := refPartners_ok (p := p) hp.ok (o := o)
      have hgr := fun k j a b => greedy_ok (p := p) (r := r) (keys := keys) (o := o) (k := k) (j := j) (a := a) (b := b) h2 h3 h1 hr
      have hrl : r.heads.length ≤ 8 := by rw [Rl.heads_len]; exact (hp.ok2 r (List.mem_of_getElem? hr)).1
      have hol := orderT_len (r := r) (keys := keys) h2 h3
      have hrt := right_ok (p := p) (x := ofI p keys o) hp (by rw [hxe]; show (orderT r keys o.head).length ≤ _; omega) (by rw [hxe]; show (knownsT _ _ _ _).length ≤ _; rw [knownsT_len (Nat.le_refl _)]; omega) (by rw [hxe]; show (placeT _ _ _).length ≤ _; rw [placeT_len, List.length_cons]; omega)
      rw [hxr] at hrt
      have hsc := fun d h (hd : d.length ≤ 100000) => planScore_ok (p := p) (keys := keys) (rule := o.rule) (done := d) (head := h) hp.ok2 hd (by omega)
      rw [hxe] at hx hrt
      rw [planI] at hx hrt
      simp only [Pl.av] at hx hrt
      clear hxe hxr
      generalize orderT r keys o.head = ord at *
      generalize p.partners o = prt at *
      generalize knownsT r o.head ord ord.length = kn at *
      generalize placeI r (o.head :: ord) = pl at *
      conv => whnf
      repeat' ((first | (refine gG ?_; first | refine CallP.fn (hx) ?_ | refine CallP.fn (hrt) ?_ | refine CallP.fn (hpr) ?_) | (refine gC ?_; first | refine cY ?_ | refine .not ?_ | (refine gD ?_; first | refine cI ?_ | refine cIr ?_) | with_reducible refine CondN.and ?_) | (refine gL ?_; refine .map ?_) | (refine gI ?_; (refine gM ?_; refine iE ?_))) <;> conv => whnf)
      refine LoopP.count (fb := true) (ord.length) (fun st_ k => st_.sets [(8, .sl (.own 1) ((o.head :: ord.take k).map intA)), (9, .int .i64 k)]) (fun _ => True) trivial ?_ (fun k hk _ => ?_) (fun _ => ?_)
      · refine EndN.at_ ?_ rfl
        conv => whnf
        refine And.intro ?_ ?_ <;> conv => whnf
        all_goals repeat' ((first | (refine gV ?_; first | refine vE ?_ | refine vI ?_ | ((refine gK ?_; refine vD ?_ ?_); (focus (simp [AV.norm, AV.norm1, ]; done)))) | (refine gX ?_; refine xB ?_) | exact True.intro) <;> conv => whnf)
      · obtain ⟨a, ha⟩ : ∃ a, ord[k]? = some a := ⟨_, List.getElem?_eq_getElem hk⟩
        have htk : ord.take (k + 1) = ord.take k ++ [a] := by
          rw [List.take_succ_eq_append_getElem hk, (List.getElem?_eq_some_iff.1 ha).2]
        have hs1 := hsc (o.head :: ord.take k) a (by simp; omega)
        conv => whnf
        repeat' ((first | (refine gG ?_; refine CallP.fn (hs1) ?_) | (refine gC ?_; (refine gD ?_; refine cI ?_)) | (refine gW ?_; refine wI ?_) | (refine gL ?_; refine .map ?_) | (refine gI ?_; (refine gM ?_; refine iE ?_))) <;> conv => whnf)
        refine LoopP.count (fb := true) (ord.length - (k + 1)) (fun st_ j => st_.sets [(11, .int .i64 (k + 1 + j))]) (fun _ => True) trivial ?_ (fun j hj _ => ?_) (fun _ => ?_)
        · refine EndN.at_ ?_ rfl
          conv => whnf
          refine And.intro ?_ ?_ <;> conv => whnf
          all_goals repeat' ((first | (refine gV ?_; first | refine vE ?_ | refine vI ?_) | (refine gX ?_; refine xB ?_) | exact True.intro) <;> conv => whnf)
        · obtain ⟨b, hb⟩ : ∃ b, ord[k + 1 + j]? = some b := ⟨_, List.getElem?_eq_getElem (by omega)⟩
          have hbi : ord[((k : Int) + 1 + j).toNat]? = some b := by
            rw [show ((k : Int) + 1 + j).toNat = k + 1 + j by omega]; exact hb
          have hs2 := hsc (o.head :: ord.take k) b (by simp; omega)
          obtain ⟨g1, g2⟩ := hgr k (k + 1 + j) a b (by omega) ha hb
          conv => whnf
          repeat' ((first | (refine gG ?_; refine CallP.fn (hs2) ?_) | (refine gC ?_; first | refine cN ?_ | (refine gD ?_; first | refine cI ?_ | refine cJ ?_) | refine CondN.dec (fun hc => ?_) (fun hc => ?_)) | (refine gW ?_; refine wI ?_) | (refine gL ?_; refine .map ?_) | (refine gI ?_; (refine gM ?_; refine iE ?_))) <;> conv => whnf)
          · refine ⟨trivial, ?_⟩
            refine EndN.at_ ?_ rfl
            conv => whnf
            refine And.intro ?_ ?_ <;> conv => whnf
            all_goals repeat' ((first | (refine gV ?_; first | refine vE ?_ | refine vI ?_) | (refine gX ?_; refine xB ?_) | exact True.intro) <;> conv => whnf)
          · refine ⟨trivial, ?_⟩
            refine EndN.at_ ?_ rfl
            conv => whnf
            refine And.intro ?_ ?_ <;> conv => whnf
            all_goals repeat' ((first | (refine gV ?_; first | refine vE ?_ | refine vI ?_) | (refine gX ?_; refine xB ?_) | exact True.intro) <;> conv => whnf)
        · conv => whnf
          repeat' ((first | (refine gC ?_; (refine gD ?_; refine cJ ?_)) | (refine gW ?_; refine wI ?_) | (refine gL ?_; refine .map ?_) | (refine gN ?_; refine nS ?_) | (refine gI ?_; (refine gM ?_; refine iE ?_))) <;> conv => whnf)
          refine ⟨trivial, ?_⟩
          refine EndN.at_ ?_ rfl
          conv => whnf
          refine And.intro ?_ ?_ <;> conv => whnf
          all_goals repeat' ((first | (refine gV ?_; first | refine vE ?_ | refine vI ?_ | (refine WkN.sl ?_ ?_; (focus (simp [AV.norm, AV.norm1, htk]; done)))) | (refine gX ?_; refine xB ?_) | exact True.intro) <;> conv => whnf)
      · conv => whnf
        repeat' ((first | (refine gC ?_; (refine gD ?_; refine cJ ?_)) | (refine gW ?_; refine wI ?_) | (refine gL ?_; refine .map ?_)) <;> conv => whnf)
        refine ⟨trivial, ?_⟩
        refine EndN.atC 1 ?_ rfl rfl rfl rfl (by first | rfl | (repeat' (first | rfl | refine bLtRow (row_allI _ _ _) ?_ | refine bLtRow (row_allB _ _ _) ?_ | refine bLtMp ?_ | refine bLtDead ?_ | refine bLtCells rfl ?_)))
        conv => whnf
        refine And.intro ?_ ?_ <;> conv => whnf
        all_goals repeat' ((first | (refine gV ?_; first | refine vE ?_ | refine vI ?_) | (refine gX ?_; refine xB ?_) | exact True.intro) <;> conv => whnf)
    · conv => whnf
      repeat' ((first | (refine gF ?_; refine CallN.fn (example29_ok) ?_) | (refine gC ?_; (refine gD ?_; refine cJ ?_)) | (refine gL ?_; refine .map ?_) | refine RetP.nrm ?_) <;> conv => whnf)
end Go.CK

set_option linter.unusedSimpArgs false
set_option linter.unusedVariables false
namespace Go.CK
open Go.AM Go.Proofs
/-- the terms of the first j elements -/
def flatT {α : Type} (f : α → List Tm) (l : List α) : Nat → List Tm
  | 0 => []
  | j + 1 => flatT f l j ++ match l[j]? with
    | none => []
    | some x => f x
theorem flatT_at {α : Type} {f : α → List Tm} {l : List α} {j : Nat} {x : α} (h : l[j]? = some x) : flatT f l (j + 1) = flatT f l j ++ f x := by simp [flatT, h]
theorem flatT_len {α : Type} {f : α → List Tm} {l : List α} {B : Nat} (hb : ∀ x ∈ l, (f x).length ≤ B) : ∀ j, (flatT f l j).length ≤ B * j
  | 0 => Nat.le_refl _
  | j + 1 => by
    have h1 := flatT_len hb j
    rw [flatT, List.length_append, Nat.mul_succ]
    split
    · simp; omega
    · rename_i x hx
      have := hb x (List.mem_of_getElem? hx)
      omega
theorem flatT_vss {α : Type} {f : α → List Tm} {l : List α} {B : Nat} (hb : ∀ x ∈ l, (Tm.vss (f x)).length ≤ B) : ∀ j, (Tm.vss (flatT f l j)).length ≤ B * j
  | 0 => Nat.le_refl _
  | j + 1 => by
    have h1 := flatT_vss hb j
    rw [flatT, Tm.vss_app, List.length_append, Nat.mul_succ]
    split
    · simp [Tm.vss]; omega
    · rename_i x hx
      have := hb x (List.mem_of_getElem? hx)
      omega
theorem flatT_in {α : Type} {f : α → List Tm} {l : List α} {v : Int} : ∀ {j : Nat}, v ∈ Tm.vss (flatT f l j) → ∃ x ∈ l, v ∈ Tm.vss (f x)
  | 0, h => by cases h
  | j + 1, h => by
    rw [flatT, Tm.vss_app, List.mem_append] at h
    rcases h with h | h
    · exact flatT_in h
    · split at h
      · cases h
      · rename_i x hx
        exact ⟨x, List.mem_of_getElem? hx, h⟩
theorem flatT_has {α : Type} {f : α → List Tm} {l : List α} {v : Int} {i : Nat} {x : α} (hx : l[i]? = some x) (hv : v ∈ Tm.vss (f x)) : ∀ {j : Nat}, i < j → v ∈ Tm.vss (flatT f l j)
  | 0, h => by omega
  | j + 1, h => by
    rw [flatT, Tm.vss_app, List.mem_append]
    rcases Nat.lt_or_eq_of_le (Nat.le_of_lt_succ h) with q | q
    · exact .inl (flatT_has hx hv q)
    · subst q
      rw [hx]; exact .inr hv
def atT (l : List At) : List Tm := flatT At.args l l.length
def glT (l : List Gl) : List Tm := flatT Gl.args l l.length
set_option maxRecDepth 100000 in
set_option maxHeartbeats 1000000 in
theorem terms_ok {x : Rl} (h0 : x.body = []) (h1 : x.keep.length ≤ 1000) (h2 : x.remove.length ≤ 1000) (h3 : x.guard.length ≤ 1000) (b1 : ∀ h ∈ x.keep, h.args.length ≤ 1000) (b2 : ∀ h ∈ x.remove, h.args.length ≤ 1000) (b3 : ∀ g ∈ x.guard, g.args.length ≤ 1000) : Fun Try.prog 19 [x.av] (slA Tm.av (atT x.keep ++ atT x.remove ++ glT x.guard)) := by
  have l1 := flatT_len (f := At.args) b1
  have l2 := flatT_len (f := At.args) b2
  have l3 := flatT_len (f := Gl.args) b3
  refine Fun.of (op_constraintref14_Terms (by simp) ?_) rfl rfl
  conv => whnf
  conv => whnf
  skip
  refine LoopP.count (fb := true) (x.keep.length) (fun st_ j => st_.sets [(3, .sl (.own 4) ((flatT At.args x.keep j).map Tm.av)), (4, .int .i64 j)]) (fun _ => True) trivial ?_ (fun j hj _ => ?_) (fun _ => ?_)
  · refine EndN.at_ ?_ rfl
    conv => whnf
    refine And.intro ?_ ?_ <;> conv => whnf
    all_goals repeat' ((first | (refine gV ?_; first | refine vE ?_ | refine vI ?_ | ((refine gK ?_; refine vD ?_ ?_); (focus (simp [AV.norm, AV.norm1, flatT]; done)))) | (refine gX ?_; refine xB ?_) | exact True.intro) <;> conv => whnf)
  · obtain ⟨y, hx⟩ : ∃ y, x.keep[j]? = some y := ⟨_, List.getElem?_eq_getElem hj⟩
    have hs := flatT_at (f := At.args) hx
    have hb := b1 y (List.mem_of_getElem? hx)
    have hl := l1 j
    conv => whnf
    repeat' ((first | (refine gC ?_; (refine gD ?_; refine cI ?_)) | (refine gW ?_; refine wI ?_) | (refine gL ?_; refine .map ?_) | (refine gN ?_; refine nS ?_) | (refine gI ?_; (refine gM ?_; refine iE ?_))) <;> conv => whnf)
    refine ⟨trivial, ?_⟩
    refine EndN.at_ ?_ rfl
    conv => whnf
    refine And.intro ?_ ?_ <;> conv => whnf
    all_goals repeat' ((first | (refine gV ?_; first | refine vE ?_ | refine vI ?_ | (refine WkN.sl ?_ ?_; (focus (simp [AV.norm, AV.norm1, hs]; done)))) | (refine gX ?_; refine xB ?_) | exact True.intro) <;> conv => whnf)
  · have hl1 := l1 x.keep.length
    conv => whnf
    repeat' ((first | (refine gC ?_; (refine gD ?_; refine cJ ?_)) | (refine gL ?_; refine .map ?_)) <;> conv => whnf)
    refine LoopP.count (fb := true) (x.remove.length) (fun st_ j => st_.sets [(3, .sl (.own 4) ((atT x.keep ++ flatT At.args x.remove j).map Tm.av)), (5, .int .i64 j)]) (fun _ => True) trivial ?_ (fun j hj _ => ?_) (fun _ => ?_)
    · refine EndN.at_ ?_ rfl
      conv => whnf
      refine And.intro ?_ ?_ <;> conv => whnf
      all_goals repeat' ((first | (refine gV ?_; first | refine vE ?_ | refine vI ?_ | (refine WkN.sl ?_ ?_; (focus (simp [AV.norm, AV.norm1, flatT, atT]; done)))) | (refine gX ?_; refine xB ?_) | exact True.intro) <;> conv => whnf)
    · obtain ⟨y, hx⟩ : ∃ y, x.remove[j]? = some y := ⟨_, List.getElem?_eq_getElem hj⟩
      have hs := flatT_at (f := At.args) hx
      have hb := b2 y (List.mem_of_getElem? hx)
      have hl := l2 j
      have hl0 : (atT x.keep).length ≤ 1000 * x.keep.length := hl1
      conv => whnf
      repeat' ((first | (refine gC ?_; (refine gD ?_; refine cI ?_)) | (refine gW ?_; refine wI ?_) | (refine gL ?_; refine .map ?_) | (refine gN ?_; refine nS ?_) | (refine gI ?_; (refine gM ?_; refine iE ?_))) <;> conv => whnf)
      refine ⟨trivial, ?_⟩
      refine EndN.at_ ?_ rfl
      conv => whnf
      refine And.intro ?_ ?_ <;> conv => whnf
      all_goals repeat' ((first | (refine gV ?_; first | refine vE ?_ | refine vI ?_ | (refine WkN.sl ?_ ?_; (focus (simp [AV.norm, AV.norm1, hs]; done)))) | (refine gX ?_; refine xB ?_) | exact True.intro) <;> conv => whnf)
    · have hl2 := l2 x.remove.length
      conv => whnf
      repeat' ((first | (refine gC ?_; (refine gD ?_; refine cJ ?_)) | (refine gL ?_; refine .map ?_)) <;> conv => whnf)
      refine LoopP.count (fb := true) (x.guard.length) (fun st_ j => st_.sets [(3, .sl (.own 4) ((atT x.keep ++ atT x.remove ++ flatT Gl.args x.guard j).map Tm.av)), (6, .int .i64 j)]) (fun _ => True) trivial ?_ (fun j hj _ => ?_) (fun _ => ?_)
      · refine EndN.at_ ?_ rfl
        conv => whnf
        refine And.intro ?_ ?_ <;> conv => whnf
        all_goals repeat' ((first | (refine gV ?_; first | refine vE ?_ | refine vI ?_ | (refine WkN.sl ?_ ?_; (focus (simp [AV.norm, AV.norm1, flatT, atT]; done)))) | (refine gX ?_; refine xB ?_) | exact True.intro) <;> conv => whnf)
      · obtain ⟨y, hx⟩ : ∃ y, x.guard[j]? = some y := ⟨_, List.getElem?_eq_getElem hj⟩
        have hs := flatT_at (f := Gl.args) hx
        have hb := b3 y (List.mem_of_getElem? hx)
        have hl := l3 j
        have hl0 : (atT x.keep).length ≤ 1000 * x.keep.length := hl1
        have hl00 : (atT x.remove).length ≤ 1000 * x.remove.length := hl2
        conv => whnf
        repeat' ((first | (refine gC ?_; (refine gD ?_; refine cI ?_)) | (refine gW ?_; refine wI ?_) | (refine gL ?_; refine .map ?_) | (refine gN ?_; refine nS ?_) | (refine gI ?_; (refine gM ?_; refine iE ?_))) <;> conv => whnf)
        refine ⟨trivial, ?_⟩
        refine EndN.at_ ?_ rfl
        conv => whnf
        refine And.intro ?_ ?_ <;> conv => whnf
        all_goals repeat' ((first | (refine gV ?_; first | refine vE ?_ | refine vI ?_ | (refine WkN.sl ?_ ?_; (focus (simp [AV.norm, AV.norm1, hs]; done)))) | (refine gX ?_; refine xB ?_) | exact True.intro) <;> conv => whnf)
      · have hb0 : x.body.length = 0 := by rw [h0]; rfl
        conv => whnf
        repeat' ((first | (refine gC ?_; (refine gD ?_; refine cJ ?_)) | (refine gL ?_; refine .map ?_)) <;> conv => whnf)
        refine LoopP.count (fb := true) 0 (fun st_ j => st_.sets [(7, .int .i64 j)]) (fun _ => True) trivial ?_ (fun j hj _ => by omega) (fun _ => ?_)
        · refine EndN.at_ ?_ rfl
          conv => whnf
          refine And.intro ?_ ?_ <;> conv => whnf
          all_goals repeat' ((first | (refine gV ?_; first | refine vE ?_ | refine vI ?_) | (refine gX ?_; refine xB ?_) | exact True.intro) <;> conv => whnf)
        · conv => whnf
          repeat' ((first | (refine gC ?_; (refine gD ?_; refine cJ ?_)) | (refine gL ?_; refine .map ?_) | refine RetP.nrm ?_) <;> conv => whnf)
          rfl
set_option maxRecDepth 100000 in
set_option maxHeartbeats 1000000 in
theorem found_ok {r : Rl} {x : Pl} {n : Nat} (hr : r.ok2) (hn : n ≤ x.order.length + 1) (ho : x.order.length ≤ 90) (h0 : 0 ≤ x.occ.head) (h1 : x.occ.head < r.heads.length) (hh : ∀ h ∈ x.order, 0 ≤ h ∧ h < r.heads.length) : Fun Try.prog 20 [r.av, x.av, .int .i64 n] (slA intA (firsts (Tm.vss (argsOf r.heads ((x.occ.head :: x.order).take n))))) := by
  have hhl : r.heads.length ≤ 8 := by rw [Rl.heads_len]; exact hr.1
  have hal := argsOf_len (hs := r.heads) fun g hg => ⟨(hr.2 g hg).1, (hr.2 g hg).2.1⟩
  generalize hd : x.occ.head :: x.order = d
  refine Fun.of (op_constraintlaw29_found (by simp) ?_) rfl rfl
  conv => whnf
  conv => whnf
  repeat' ((refine gF ?_; refine CallN.fn (refHeads_ok (x := r) (by have := hr.1; omega)) ?_) <;> conv => whnf)
  refine LoopP.count (fb := true) (n) (fun st_ k => st_.sets [(8, .sl (.own 4) ((argsOf r.heads (d.take k)).map Tm.av)), (9, .int .i64 k)]) (fun _ => True) trivial ?_ (fun k hk _ => ?_) (fun _ => ?_)
  · refine EndN.at_ ?_ rfl
    conv => whnf
    refine And.intro ?_ ?_ <;> conv => whnf
    all_goals repeat' ((first | (refine gV ?_; first | refine vE ?_ | refine vI ?_ | ((refine gK ?_; refine vD ?_ ?_); (focus (simp [AV.norm, AV.norm1, argsOf]; done)))) | (refine gX ?_; refine xB ?_) | exact True.intro) <;> conv => whnf)
  · have hak := (hal (d.take k)).1
    have htl : (d.take k).length ≤ k := List.length_take_le _ _
    by_cases hk0 : k = 0
    · subst hk0
      have hz : (argsOf r.heads ([] : List Int)).length = 0 := rfl
      obtain ⟨h, hgk⟩ : ∃ h, r.heads[x.occ.head.toNat]? = some h := ⟨_, List.getElem?_eq_getElem (by omega)⟩
      have hgo := (hr.2 h (List.mem_of_getElem? hgk)).1
      have hks := argsOf_yes (hs := r.heads) (l := d) (j := 0) (by rw [← hd]; rfl) h0 hgk
      conv => whnf
      repeat' ((first | (refine gC ?_; (refine gD ?_; first | refine cI ?_ | refine cJ ?_)) | (refine gW ?_; refine wI ?_) | (refine gN ?_; refine nS ?_) | (refine gI ?_; (refine gM ?_; refine iF ?_))) <;> conv => whnf)
      refine ⟨trivial, ?_⟩
      refine EndN.at_ ?_ rfl
      conv => whnf
      refine And.intro ?_ ?_ <;> conv => whnf
      all_goals repeat' ((first | (refine gV ?_; first | refine vE ?_ | refine vI ?_ | (refine WkN.sl ?_ ?_; (focus (simp [AV.norm, AV.norm1, hks]; done)))) | (refine gX ?_; refine xB ?_) | exact True.intro) <;> conv => whnf)
    · obtain ⟨m, rfl⟩ : ∃ m, k = m + 1 := ⟨k - 1, by omega⟩
      obtain ⟨a, ha⟩ : ∃ a, x.order[m]? = some a := ⟨_, List.getElem?_eq_getElem (by omega)⟩
      have hai : x.order[((m : Int) + 1 - 1).toNat]? = some a := by
        rw [show ((m : Int) + 1 - 1).toNat = m by omega]; exact ha
      have haj : x.order[(((m + 1 : Nat) : Int) - 1).toNat]? = some a := by
        rw [show (((m + 1 : Nat) : Int) - 1).toNat = m by omega]; exact ha
      obtain ⟨q1, q2⟩ := hh a (List.mem_of_getElem? ha)
      obtain ⟨h, hgk⟩ : ∃ h, r.heads[a.toNat]? = some h := ⟨_, List.getElem?_eq_getElem (by omega)⟩
      have hgo := (hr.2 h (List.mem_of_getElem? hgk)).1
      have hks := argsOf_yes (hs := r.heads) (l := d) (j := m + 1) (by rw [← hd]; exact ha) q1 hgk
      conv => whnf
      repeat' ((first | (refine gC ?_; (refine gD ?_; refine cI ?_)) | (refine gW ?_; refine wI ?_) | (refine gN ?_; refine nS ?_) | (refine gI ?_; (refine gM ?_; refine iF ?_))) <;> conv => whnf)
      refine ⟨trivial, ?_⟩
      refine EndN.at_ ?_ rfl
      conv => whnf
      refine And.intro ?_ ?_ <;> conv => whnf
      all_goals repeat' ((first | (refine gV ?_; first | refine vE ?_ | refine vI ?_ | (refine WkN.sl ?_ ?_; (focus (simp [AV.norm, AV.norm1, hks]; done)))) | (refine gX ?_; refine xB ?_) | exact True.intro) <;> conv => whnf)
  · have hv := (hal (d.take n)).2
    have htl : (d.take n).length ≤ n := List.length_take_le _ _
    conv => whnf
    repeat' ((first | (refine gF ?_; refine CallN.fn (varsOf_ok (l := argsOf r.heads (d.take n)) (by omega)) ?_) | (refine gC ?_; (refine gD ?_; refine cJ ?_)) | refine RetP.nrm ?_) <;> conv => whnf)
theorem idxP_mem {α : Type} {p : α → Bool} {l : List α} {x : Int} : ∀ {j : Nat}, x ∈ idxP p l j ↔ ∃ (i : Nat) (t : α), i < j ∧ x = (i : Int) ∧ l[i]? = some t ∧ p t = true
  | 0 => by simp [idxP]
  | j + 1 => by
    rw [idxP, List.mem_append, idxP_mem (j := j)]
    constructor
    · rintro (⟨i, t, h1, h2, h3, h4⟩ | h)
      · exact ⟨i, t, by omega, h2, h3, h4⟩
      · split at h
        · cases h
        · rename_i t ht
          split at h
          · rename_i hp
            rw [List.mem_singleton] at h
            exact ⟨j, t, by omega, h, ht, hp⟩
          · cases h
    · rintro ⟨i, t, h1, h2, h3, h4⟩
      rcases Nat.lt_or_eq_of_le (Nat.le_of_lt_succ h1) with q | q
      · exact .inl ⟨i, t, q, h2, h3, h4⟩
      · subst q
        right
        rw [h3]
        simp [h4, h2]
theorem idxP_nodup {α : Type} {p : α → Bool} {l : List α} : ∀ j, (idxP p l j).Nodup
  | 0 => .nil
  | j + 1 => by
    rw [idxP, List.nodup_append]
    refine ⟨idxP_nodup j, ?_, fun x hx y hy e => ?_⟩
    · split
      · exact .nil
      · split <;> simp
    · obtain ⟨i, t, h1, h2, _⟩ := idxP_mem.1 hx
      split at hy
      · cases hy
      · split at hy
        · rw [List.mem_singleton] at hy
          omega
        · cases hy
theorem addVs_all : ∀ {m l : List Int}, (addVs l m).length = l.length → ∀ x ∈ m, x ∈ l
  | [], l, _, x, hx => by cases hx
  | y :: m, l, h, x, hx => by
    have h1 : addVs l (y :: m) = addVs (addV l y) m := rfl
    have hmono : ∀ (m l : List Int), l.length ≤ (addVs l m).length := fun m => by
      induction m with
      | nil => intro l; exact Nat.le_refl _
      | cons z m ih =>
        intro l
        have h2 : addVs l (z :: m) = addVs (addV l z) m := rfl
        rw [h2]
        have h3 := ih (addV l z)
        have h4 : l.length ≤ (addV l z).length := by unfold addV; split <;> simp
        omega
    by_cases hy : y ∈ l
    · rw [h1, addV_in hy] at h
      rcases List.mem_cons.1 hx with rfl | hx
      · exact hy
      · exact addVs_all h x hx
    · rw [h1, addV_out hy] at h
      have := hmono m (l ++ [y])
      rw [h, List.length_append, List.length_singleton] at this
      omega
theorem kvs_has {hs : List At} {l : List Int} {k : Int} {h : At} {v : Int} (hk : k ∈ l) (h0 : 0 ≤ k) (hh : hs[k.toNat]? = some h) (hv : v ∈ Tm.vss h.args) : v ∈ kvs hs l := by
  obtain ⟨a, b, rfl⟩ := List.append_of_mem hk
  rw [kvs_app, List.mem_append]
  right
  rw [kvs, if_pos h0, hh, List.mem_append]
  left
  exact addVs_mem.2 (.inr hv)
/-- how often each goal has been tested ahead of the k-th of the tests behind n heads -/
def tmsI (r : Rl) (d : List Int) (n k : Nat) (i : Nat) : Int := match r.guard[i]? with
  | none => 0
  | some g => (if prevP r d n g then 1 else 0) + (if (i : Int) ∈ (newI r d n).take k then 1 else 0)
def tmsL (r : Rl) (d : List Int) (n k : Nat) : List Int := (List.range r.guard.length).map (tmsI r d n k)
theorem tmsL_len (r : Rl) (d : List Int) (n k : Nat) : (tmsL r d n k).length = r.guard.length := by simp [tmsL]
theorem tmsL_at {r : Rl} {d : List Int} {n k i : Nat} (h : i < r.guard.length) : (tmsL r d n k)[i]? = some (tmsI r d n k i) := by simp [tmsL, h]
theorem tmsL_zero (r : Rl) (d : List Int) : tmsL r d 0 0 = List.replicate r.guard.length 0 := by
  refine List.ext_getElem? fun i => ?_
  rcases Nat.lt_or_ge i r.guard.length with h | h
  · obtain ⟨g, hg⟩ : ∃ g, r.guard[i]? = some g := ⟨_, List.getElem?_eq_getElem h⟩
    rw [tmsL_at h, tmsI, hg]
    simp [prevP, h]
  · rw [List.getElem?_eq_none (by rw [tmsL_len]; exact h), List.getElem?_eq_none (by simpa using h)]
theorem newI_mem {r : Rl} {d : List Int} {n : Nat} {x : Int} : x ∈ newI r d n ↔ ∃ (i : Nat) (g : Gl), x = (i : Int) ∧ r.guard[i]? = some g ∧ newP r d n g = true := by
  rw [newI, idxP_mem]
  exact ⟨fun ⟨i, g, _, h⟩ => ⟨i, g, h⟩, fun ⟨i, g, h1, h2, h3⟩ => ⟨i, g, (List.getElem?_eq_some_iff.1 h2).1, h1, h2, h3⟩⟩
theorem tmsL_step {r : Rl} {d : List Int} {n k : Nat} {x : Int} (hx : (newI r d n)[k]? = some x) : ∃ i : Nat, x = (i : Int) ∧ i < r.guard.length ∧ tmsL r d n (k + 1) = (tmsL r d n k).set i (tmsI r d n k i + 1) := by
  obtain ⟨i, g, rfl, hg, hp⟩ := newI_mem.1 (List.mem_of_getElem? hx)
  have hi := (List.getElem?_eq_some_iff.1 hg).1
  have hk := (List.getElem?_eq_some_iff.1 hx).1
  refine ⟨i, rfl, hi, List.ext_getElem? fun j => ?_⟩
  have htk : (newI r d n).take (k + 1) = (newI r d n).take k ++ [(i : Int)] := by
    rw [List.take_succ_eq_append_getElem hk, (List.getElem?_eq_some_iff.1 hx).2]
  have hnd : ((newI r d n).take (k + 1)).Nodup := (idxP_nodup _).sublist (List.take_sublist _ _)
  rw [htk] at hnd
  have hni : ¬ (i : Int) ∈ (newI r d n).take k := fun h => (List.nodup_append.1 hnd).2.2 _ h _ (by simp) rfl
  rcases Nat.lt_or_ge j r.guard.length with h | h
  · rw [tmsL_at h, List.getElem?_set]
    by_cases e : i = j
    · subst e
      rw [if_pos rfl, if_pos (by rw [tmsL_len]; exact h)]
      simp only [tmsI, hg, htk, List.mem_append, List.mem_singleton, or_true, if_true, if_neg hni]
      simp
    · rw [if_neg e, tmsL_at h]
      obtain ⟨g', hg'⟩ : ∃ g', r.guard[j]? = some g' := ⟨_, List.getElem?_eq_getElem h⟩
      have e2 : ¬ (j : Int) = (i : Int) := by omega
      simp only [tmsI, hg', htk, List.mem_append, List.mem_singleton, e2, or_false]
  · rw [List.getElem?_eq_none (by rw [tmsL_len]; exact h), List.getElem?_eq_none (by rw [List.length_set, tmsL_len]; exact h)]
theorem tmsL_next (r : Rl) (d : List Int) (n : Nat) : tmsL r d n (newI r d n).length = tmsL r d (n + 1) 0 := by
  refine List.map_congr_left fun i hi => ?_
  have h := List.mem_range.1 hi
  obtain ⟨g, hg⟩ : ∃ g, r.guard[i]? = some g := ⟨_, List.getElem?_eq_getElem h⟩
  have hm : (i : Int) ∈ newI r d n ↔ newP r d n g = true := by
    rw [newI_mem]
    constructor
    · rintro ⟨i', g', e, hg', hp⟩
      obtain rfl : i = i' := by omega
      rw [hg] at hg'; cases hg'; exact hp
    · exact fun hp => ⟨i, g, rfl, hg, hp⟩
  simp only [tmsI, hg, List.take_length, List.take_zero, List.not_mem_nil, if_false, hm]
  rw [newP_prev]
  have hpc := prev_covers (r := r) (order := d) (g := g) (k := n)
  show _ = (if coversB (kvs r.heads (d.take n)) g = true then (1 : Int) else 0) + 0
  cases h1 : prevP r d n g with
  | true => rw [hpc h1]; simp
  | false => cases h2 : coversB (kvs r.heads (d.take n)) g <;> simp
end Go.CK

