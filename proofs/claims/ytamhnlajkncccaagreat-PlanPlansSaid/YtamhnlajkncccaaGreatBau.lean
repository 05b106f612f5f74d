/-
  Texts of this claim joined (wip/gen/bundle.py), those declarations only that are needed: PlF PlG PlH PlI PlJ PlK. By an AI agent.
-/
import Derived.Test.YtamhnlajkncccaaGreatBat
set_option linter.unusedSimpArgs false
set_option linter.unusedVariables false
namespace Go.CK
open Go.AM Go.Proofs
set_option maxRecDepth 100000 in
theorem in28_ok {l : List Int} {n : Int} (hl : l.length ≤ 1000000) : Fun Tryz.prog 75 [slA intA l, .int .i64 n] (.bool (decide (n ∈ l))) := by
  rw [← any_isI]
  refine Fun.of (op_constraintref28_in (by simp) ?_) rfl rfl
  conv => whnf
  conv => whnf
  skip
  refine LoopP.count (fb := true) (l.length) (fun st_ j => st_.sets [(5, .int .i64 j)]) (fun j => ∀ i x, i < j → l[i]? = some x → isI n x = false) ?_ ?_ (fun j hj hij => ?_) (fun hij => ?_)
  · exact no_zero
  · refine EndN.at_ ?_ rfl
    conv => whnf
    refine And.intro ?_ ?_ <;> conv => whnf
    all_goals repeat' ((first | (refine gV ?_; first | refine vE ?_ | refine vI ?_) | exact True.intro) <;> conv => whnf)
  · obtain ⟨y, hy⟩ : ∃ y, l[j]? = some y := ⟨_, List.getElem?_eq_getElem hj⟩
    conv => whnf
    repeat' ((first | (refine gC ?_; first | (refine gD ?_; refine cI ?_) | refine CondN.dec (fun hc => ?_) (fun hc => ?_)) | (refine gW ?_; refine wI ?_) | (refine gL ?_; refine .map ?_) | (refine gI ?_; (refine gM ?_; refine iE ?_)) | refine RetP.nrm ?_) <;> conv => whnf)
    · have h1 : isI n y = true := by simp only [isI]; exact decide_eq_true (Eq.symm (by assumption))
      rw [show l.any (isI n) = true from List.any_eq_true.2 ⟨y, List.mem_of_getElem? hy, h1⟩]
    · refine ⟨no_succ hij hy (by simp only [isI]; exact decide_eq_false (Ne.symm (by assumption))), ?_⟩
      refine EndN.at_ ?_ rfl
      conv => whnf
      refine And.intro ?_ ?_ <;> conv => whnf
      all_goals repeat' ((first | (refine gV ?_; first | refine vE ?_ | refine vI ?_) | exact True.intro) <;> conv => whnf)
  · conv => whnf
    repeat' ((first | (refine gC ?_; (refine gD ?_; refine cJ ?_)) | (refine gL ?_; refine .map ?_) | refine RetP.nrm ?_) <;> conv => whnf)
    rw [any_noF hij]
set_option maxRecDepth 100000 in
theorem refUnique_ok {keys : List Ky} {name : ByteArray} {ps : List Int} (hk : keys.length ≤ 100000) (hk2 : ∀ k ∈ keys, k.positions.length ≤ 100000) (hp : ps.length ≤ 100000) : Fun Tryz.prog 54 [slA Ky.av keys, .str name, slA intA ps] (.bool (uniqI keys name ps)) := by
  refine Fun.of (op_constraintref28_Unique (by simp) ?_) rfl rfl
  conv => whnf
  conv => whnf
  skip
  refine LoopP.count (fb := true) (keys.length) (fun st_ j => st_.sets [(7, .int .i64 j)]) (fun j => ∀ i x, i < j → keys[i]? = some x → keyIn name ps x = false) ?_ ?_ (fun j hj hij => ?_) (fun hij => ?_)
  · exact no_zero
  · refine EndN.at_ ?_ rfl
    conv => whnf
    refine And.intro ?_ ?_ <;> conv => whnf
    all_goals repeat' ((first | (refine gV ?_; first | refine vE ?_ | refine vI ?_) | exact True.intro) <;> conv => whnf)
  · obtain ⟨k, hk⟩ : ∃ k, keys[j]? = some k := ⟨_, List.getElem?_eq_getElem hj⟩
    have hkl := hk2 k (List.mem_of_getElem? hk)
    conv => whnf
    repeat' ((first | (refine gC ?_; (refine gD ?_; refine cI ?_)) | (refine gL ?_; refine .map ?_) | (refine gI ?_; (refine gM ?_; refine iE ?_))) <;> conv => whnf)
    refine LoopP.count (fb := true) (k.positions.length) (fun st_ m => st_.sets [(8, .bool (decide (k.name = name) && (k.positions.take m).all fun v => decide (v ∈ ps))), (9, .int .i64 m)]) (fun m => True) ?_ ?_ (fun m hm him => ?_) (fun him => ?_)
    · trivial
    · refine EndN.at_ ?_ rfl
      conv => whnf
      refine And.intro ?_ ?_ <;> conv => whnf
      all_goals repeat' ((first | (refine gV ?_; first | refine vE ?_ | refine vI ?_ | (refine WkN.norm ?_ ?_; (focus (simp [AV.norm, AV.norm1, ]; done)))) | exact True.intro) <;> conv => whnf)
    · obtain ⟨y, hy⟩ : ∃ y, k.positions[m]? = some y := ⟨_, List.getElem?_eq_getElem hm⟩
      have hs : k.positions.take (m + 1) = k.positions.take m ++ [y] := by
        rw [List.take_succ_eq_append_getElem hm, (List.getElem?_eq_some_iff.1 hy).2]
      have hall : (decide (k.name = name) && (k.positions.take (m + 1)).all fun v => decide (v ∈ ps)) = ((decide (k.name = name) && (k.positions.take m).all fun v => decide (v ∈ ps)) && decide (y ∈ ps)) := by
        rw [hs, List.all_append, Bool.and_assoc]; simp
      cases hb : (decide (k.name = name) && (k.positions.take m).all fun v => decide (v ∈ ps)) with
      | true =>
        rw [hb, Bool.true_and] at hall
        conv => whnf
        repeat' ((first | (refine gF ?_; refine CallN.fn (in28_ok (l := ps) (n := y) (by omega)) ?_) | (refine gC ?_; first | refine cY ?_ | (refine gD ?_; refine cI ?_)) | (refine gW ?_; refine wI ?_) | (refine gL ?_; refine .map ?_) | (refine gI ?_; (refine gM ?_; refine iE ?_))) <;> conv => whnf)
        refine ⟨trivial, ?_⟩
        refine EndN.at_ ?_ rfl
        conv => whnf
        refine And.intro ?_ ?_ <;> conv => whnf
        all_goals repeat' ((first | (refine gV ?_; first | refine vE ?_ | refine vI ?_ | (refine WkN.norm ?_ ?_; (focus (simp [AV.norm, AV.norm1, hall]; done)))) | exact True.intro) <;> conv => whnf)
      | false =>
        rw [hb, Bool.false_and] at hall
        conv => whnf
        repeat' ((first | (refine gC ?_; first | refine cN ?_ | (refine gD ?_; refine cI ?_)) | (refine gW ?_; refine wI ?_) | (refine gL ?_; refine .map ?_) | (refine gI ?_; (refine gM ?_; refine iE ?_))) <;> conv => whnf)
        refine ⟨trivial, ?_⟩
        refine EndN.at_ ?_ rfl
        conv => whnf
        refine And.intro ?_ ?_ <;> conv => whnf
        all_goals repeat' ((first | (refine gV ?_; first | refine vE ?_ | refine vI ?_ | (refine WkN.norm ?_ ?_; (focus (simp [AV.norm, AV.norm1, hall]; done)))) | exact True.intro) <;> conv => whnf)
    · rw [List.take_length, show (decide (k.name = name) && k.positions.all fun v => decide (v ∈ ps)) = keyIn name ps k from rfl]
      cases hb : keyIn name ps k with
      | true =>
        conv => whnf
        repeat' ((first | (refine gC ?_; first | refine cY ?_ | (refine gD ?_; refine cJ ?_)) | (refine gL ?_; refine .map ?_) | (refine gI ?_; (refine gM ?_; refine iE ?_)) | refine RetP.nrm ?_) <;> conv => whnf)
        rw [show uniqI keys name ps = true from List.any_eq_true.2 ⟨k, List.mem_of_getElem? hk, hb⟩]
      | false =>
        conv => whnf
        repeat' ((first | (refine gC ?_; first | refine cN ?_ | (refine gD ?_; refine cJ ?_)) | (refine gW ?_; refine wI ?_) | (refine gL ?_; refine .map ?_) | (refine gI ?_; (refine gM ?_; refine iE ?_))) <;> conv => whnf)
        refine ⟨no_succ hij hk hb, ?_⟩
        refine EndN.at_ ?_ rfl
        conv => whnf
        refine And.intro ?_ ?_ <;> conv => whnf
        all_goals repeat' ((first | (refine gV ?_; first | refine vE ?_ | refine vI ?_) | exact True.intro) <;> conv => whnf)
  · conv => whnf
    repeat' ((first | (refine gC ?_; (refine gD ?_; refine cJ ?_)) | (refine gL ?_; refine .map ?_) | refine RetP.nrm ?_) <;> conv => whnf)
    rw [show uniqI keys name ps = false from any_noF hij]
/-- the score of a head that there is -/
def scoreI (r : Rl) (keys : List Ky) (done : List Int) (head : Int) (h : At) : Int :=
  (if uniqI keys h.name (knownI r done head) then 100 else 10 * ((knownI r done head).length : Int)) + (if (r.keep.length : Int) ≤ head then 1 else 0)
set_option maxRecDepth 100000 in
theorem score_ok {r : Rl} {keys : List Ky} {done : List Int} {head : Int} {h : At} (hr : r.ok2) (hd : done.length ≤ 100000) (hk : keys.length ≤ 100000) (hh0 : 0 ≤ head) (hh1 : head < r.heads.length) (hh : r.heads[head.toNat]? = some h) : Fun Tryz.prog 24 [r.wh, slA Ky.av keys, slA intA done, .int .i64 head] (.int .i64 (scoreI r keys done head h)) := by
  have hkn := known_ok hr.ok hd hh0 hh1
  have hhl : r.heads.length ≤ 8 := by rw [Rl.heads_len]; exact hr.1
  have hkl : (knownI r done head).length ≤ 100000 := by
    rw [knownI, if_neg (by omega), hh]
    have := placesP_len (allIn (kvs r.heads done)) h.args h.args.length
    have := (hr.2 h (List.mem_of_getElem? hh)).1
    show (placesP _ h.args h.args.length).length ≤ _
    omega
  have hu := unique_ok (keys := keys) (name := h.name) (ps := knownI r done head) hk
  have hrm := removes_ok (r := r) (k := head)
  unfold scoreI
  generalize knownI r done head = ps at *
  generalize uniqI keys h.name ps = u at *
  by_cases hrem : (r.keep.length : Int) ≤ head
  · rw [decide_eq_true hrem] at hrm
    rw [if_pos hrem]
    cases u with
    | true =>
      refine Fun.of (op_plan_rule_score (by simp) ?_) rfl rfl
      conv => whnf
      conv => whnf
      repeat' ((first | (refine gF ?_; first | refine CallN.fn (hkn) ?_ | refine CallN.fn (hu) ?_ | refine CallN.fn (hrm) ?_) | (refine gC ?_; refine cY ?_) | (refine gW ?_; refine wI ?_) | (refine gL ?_; refine .map ?_) | (refine gI ?_; (refine gM ?_; refine iF ?_)) | refine RetP.nrm ?_) <;> conv => whnf)
      simp
    | false =>
      refine Fun.of (op_plan_rule_score (by simp) ?_) rfl rfl
      conv => whnf
      conv => whnf
      repeat' ((first | (refine gF ?_; first | refine CallN.fn (hkn) ?_ | refine CallN.fn (hu) ?_ | refine CallN.fn (hrm) ?_) | (refine gC ?_; first | refine cY ?_ | refine cN ?_) | (refine gW ?_; refine wI ?_) | (refine gL ?_; refine .map ?_) | (refine gI ?_; (refine gM ?_; refine iF ?_)) | refine RetP.nrm ?_) <;> conv => whnf)
      simp
  · rw [decide_eq_false hrem] at hrm
    rw [if_neg hrem]
    cases u with
    | true =>
      refine Fun.of (op_plan_rule_score (by simp) ?_) rfl rfl
      conv => whnf
      conv => whnf
      repeat' ((first | (refine gF ?_; first | refine CallN.fn (hkn) ?_ | refine CallN.fn (hu) ?_ | refine CallN.fn (hrm) ?_) | (refine gC ?_; first | refine cY ?_ | refine cN ?_) | (refine gW ?_; refine wI ?_) | (refine gL ?_; refine .map ?_) | (refine gI ?_; (refine gM ?_; refine iF ?_)) | refine RetP.nrm ?_) <;> conv => whnf)
      simp
    | false =>
      refine Fun.of (op_plan_rule_score (by simp) ?_) rfl rfl
      conv => whnf
      conv => whnf
      repeat' ((first | (refine gF ?_; first | refine CallN.fn (hkn) ?_ | refine CallN.fn (hu) ?_ | refine CallN.fn (hrm) ?_) | (refine gC ?_; refine cN ?_) | (refine gW ?_; refine wI ?_) | (refine gL ?_; refine .map ?_) | (refine gI ?_; (refine gM ?_; refine iF ?_)) | refine RetP.nrm ?_) <;> conv => whnf)
      simp
/-- the score, if there are such a rule and such a head -/
def scoreP (p : Pg) (keys : List Ky) (rule : Int) (done : List Int) (head : Int) : Int :=
  if rule < 0 then 0 else match p.rules[rule.toNat]? with
    | some r => if head < 0 then 0 else match r.heads[head.toNat]? with
      | some h => scoreI r keys done head h
      | none => 0
    | none => 0
def Rl.zeroA : AV := .agg [.str ⟨⟨[]⟩⟩, .sl .no [], .sl .no [], .sl .no [], .sl .no [], .int .i64 0, .sl .no []]
set_option maxRecDepth 100000 in
theorem of_no {p : Pg} {n : Int} (h : n < 0 ∨ (p.rules.length : Int) ≤ n) : Fun Tryz.prog 22 [p.av, .int .i64 n] (.tup [Rl.zeroA, .bool false]) := by
  by_cases h0 : n < 0
  · refine Fun.of (op_plan_of (by simp) ?_) rfl rfl
    conv => whnf
    conv => whnf
    repeat' ((first | (refine gC ?_; first | refine cY ?_ | (refine gD ?_; refine cI ?_)) | refine RetP.nrm ?_) <;> conv => whnf)
    rfl
  · refine Fun.of (op_plan_of (by simp) ?_) rfl rfl
    conv => whnf
    conv => whnf
    repeat' ((first | (refine gC ?_; (refine gD ?_; first | refine cI ?_ | refine cJ ?_)) | (refine gL ?_; refine .map ?_) | refine RetP.nrm ?_) <;> conv => whnf)
    rfl
set_option maxRecDepth 100000 in
theorem of_yes {p : Pg} {n : Int} {r : Rl} (h0 : 0 ≤ n) (hr : p.rules[n.toNat]? = some r) (hr2 : r.ok2) : Fun Tryz.prog 22 [p.av, .int .i64 n] (.tup [r.wh, .bool true]) := by
  have hlt := (List.getElem?_eq_some_iff.1 hr).1
  have hhl : r.keep.length + r.remove.length ≤ 8 := hr2.1
  refine Fun.of (op_plan_of (by simp) ?_) rfl rfl
  conv => whnf
  conv => whnf
  repeat' ((first | (refine gG ?_; refine CallP.fn (heads_ok (x := r) (by omega)) ?_) | (refine gC ?_; (refine gD ?_; refine cJ ?_)) | (refine gL ?_; refine .map ?_) | (refine gI ?_; (refine gM ?_; refine iF ?_)) | refine RetP.nrm ?_) <;> conv => whnf)
  rfl
set_option maxRecDepth 100000 in
theorem planScore_ok {p : Pg} {keys : List Ky} {rule : Int} {done : List Int} {head : Int} (hp : ∀ r ∈ p.rules, r.ok2) (hd : done.length ≤ 100000) (hk : keys.length ≤ 100000) : Fun Tryz.prog 15 [p.av, slA Ky.av keys, .int .i64 rule, slA intA done, .int .i64 head] (.int .i64 (scoreP p keys rule done head)) := by
  by_cases h1 : rule < 0 ∨ (p.rules.length : Int) ≤ rule
  · have e : scoreP p keys rule done head = 0 := by
      unfold scoreP
      split
      · rfl
      · rw [List.getElem?_eq_none (by omega)]
    rw [e]
    have ho := of_no (p := p) h1
    unfold Rl.zeroA at ho
    refine Fun.of (op_plan_Score (by simp) ?_) rfl rfl
    conv => whnf
    conv => whnf
    repeat' ((first | (refine gF ?_; refine CallN.fn (ho) ?_) | (refine gC ?_; first | refine cY ?_ | refine cN ?_ | refine .not ?_) | refine RetP.nrm ?_) <;> conv => whnf)
  · obtain ⟨r, hr⟩ : ∃ r, p.rules[rule.toNat]? = some r := ⟨_, List.getElem?_eq_getElem (by omega)⟩
    have hr2 := hp r (List.mem_of_getElem? hr)
    have ho := of_yes (p := p) (by omega) hr hr2
    by_cases h2 : 0 ≤ head ∧ head < r.heads.length
    · obtain ⟨h, hh⟩ : ∃ h, r.heads[head.toNat]? = some h := ⟨_, List.getElem?_eq_getElem (by omega)⟩
      have e : scoreP p keys rule done head = scoreI r keys done head h := by
        unfold scoreP
        rw [if_neg (by omega), hr]
        simp only
        rw [if_neg (by omega), hh]
      rw [e]
      have hy := has_yes h2
      have hs := score_ok hr2 hd hk h2.1 h2.2 hh
      refine Fun.of (op_plan_Score (by simp) ?_) rfl rfl
      conv => whnf
      conv => whnf
      repeat' ((first | (refine gF ?_; first | refine CallN.fn (ho) ?_ | refine CallN.fn (hy) ?_ | refine CallN.fn (hs) ?_) | (refine gC ?_; first | refine cY ?_ | refine .not ?_) | refine RetP.nrm ?_) <;> conv => whnf)
    · have e : scoreP p keys rule done head = 0 := by
        unfold scoreP
        rw [if_neg (by omega), hr]
        simp only
        split
        · rfl
        · rw [List.getElem?_eq_none (by omega)]
      rw [e]
      have hy := has_no h2
      refine Fun.of (op_plan_Score (by simp) ?_) rfl rfl
      conv => whnf
      conv => whnf
      repeat' ((first | (refine gF ?_; first | refine CallN.fn (ho) ?_ | refine CallN.fn (hy) ?_) | (refine gC ?_; first | refine cY ?_ | refine cN ?_ | refine .not ?_) | refine RetP.nrm ?_) <;> conv => whnf)
end Go.CK

set_option linter.unusedSimpArgs false
set_option linter.unusedVariables false
namespace Go.CK
open Go.AM Go.Proofs
set_option maxRecDepth 100000 in
theorem refScore_ok {p : Pg} {keys : List Ky} {rule : Int} {done : List Int} {head : Int} (hp : ∀ r ∈ p.rules, r.ok2) (hd : done.length ≤ 100) (hk : keys.length ≤ 100000) (hk2 : ∀ k ∈ keys, k.positions.length ≤ 100000) : Fun Tryz.prog 28 [p.av, slA Ky.av keys, .int .i64 rule, slA intA done, .int .i64 head] (.int .i64 (scoreP p keys rule done head)) := by
  by_cases h1 : rule < 0 ∨ (p.rules.length : Int) ≤ rule
  · have e : scoreP p keys rule done head = 0 := by
      unfold scoreP
      split
      · rfl
      · rw [List.getElem?_eq_none (by omega)]
    rw [e]
    by_cases h0 : rule < 0
    · refine Fun.of (op_constraintref29_Score (by simp) ?_) rfl rfl
      conv => whnf
      conv => whnf
      repeat' ((first | (refine gC ?_; first | refine cY ?_ | (refine gD ?_; refine cI ?_)) | refine RetP.nrm ?_) <;> conv => whnf)
    · refine Fun.of (op_constraintref29_Score (by simp) ?_) rfl rfl
      conv => whnf
      conv => whnf
      repeat' ((first | (refine gC ?_; (refine gD ?_; first | refine cI ?_ | refine cJ ?_)) | (refine gL ?_; refine .map ?_) | refine RetP.nrm ?_) <;> conv => whnf)
  · obtain ⟨r, hr⟩ : ∃ r, p.rules[rule.toNat]? = some r := ⟨_, List.getElem?_eq_getElem (by omega)⟩
    have hr2 := hp r (List.mem_of_getElem? hr)
    have hhl : r.keep.length + r.remove.length ≤ 8 := hr2.1
    have hho := refHeads_ok (x := r) (by omega)
    by_cases h2 : 0 ≤ head ∧ head < r.heads.length
    · obtain ⟨h, hh⟩ : ∃ h, r.heads[head.toNat]? = some h := ⟨_, List.getElem?_eq_getElem (by omega)⟩
      have e : scoreP p keys rule done head = scoreI r keys done head h := by
        unfold scoreP
        rw [if_neg (by omega), hr]
        simp only
        rw [if_neg (by omega), hh]
      rw [e]
      have hkn := refKnown_ok hr2 hd h2.1 h2.2
      have hkl : (knownI r done head).length ≤ 100000 := by
        rw [knownI, if_neg (by omega), hh]
        have := placesP_len (allIn (kvs r.heads done)) h.args h.args.length
        have := (hr2.2 h (List.mem_of_getElem? hh)).1
        show (placesP _ h.args h.args.length).length ≤ _
        omega
      have hu := refUnique_ok (keys := keys) (name := h.name) (ps := knownI r done head) hk hk2 hkl
      unfold scoreI
      generalize knownI r done head = ps at *
      generalize uniqI keys h.name ps = u at *
      by_cases hrem : (r.keep.length : Int) ≤ head
      · rw [if_pos hrem]
        cases u with
        | true =>
          refine Fun.of (op_constraintref29_Score (by simp) ?_) rfl rfl
          conv => whnf
          conv => whnf
          repeat' ((first | (refine gF ?_; first | refine CallN.fn (hho) ?_ | refine CallN.fn (hkn) ?_ | refine CallN.fn (hu) ?_) | (refine gC ?_; first | refine cY ?_ | (refine gD ?_; first | refine cI ?_ | refine cJ ?_)) | (refine gW ?_; refine wI ?_) | (refine gL ?_; refine .map ?_) | (refine gI ?_; (refine gM ?_; refine iF ?_)) | refine RetP.nrm ?_) <;> conv => whnf)
          simp
        | false =>
          refine Fun.of (op_constraintref29_Score (by simp) ?_) rfl rfl
          conv => whnf
          conv => whnf
          repeat' ((first | (refine gF ?_; first | refine CallN.fn (hho) ?_ | refine CallN.fn (hkn) ?_ | refine CallN.fn (hu) ?_) | (refine gC ?_; first | refine cN ?_ | (refine gD ?_; first | refine cI ?_ | refine cJ ?_)) | (refine gW ?_; refine wI ?_) | (refine gL ?_; refine .map ?_) | (refine gI ?_; (refine gM ?_; refine iF ?_)) | refine RetP.nrm ?_) <;> conv => whnf)
          simp
      · rw [if_neg hrem]
        cases u with
        | true =>
          refine Fun.of (op_constraintref29_Score (by simp) ?_) rfl rfl
          conv => whnf
          conv => whnf
          repeat' ((first | (refine gF ?_; first | refine CallN.fn (hho) ?_ | refine CallN.fn (hkn) ?_ | refine CallN.fn (hu) ?_) | (refine gC ?_; first | refine cY ?_ | (refine gD ?_; refine cJ ?_)) | (refine gW ?_; refine wI ?_) | (refine gL ?_; refine .map ?_) | (refine gI ?_; (refine gM ?_; refine iF ?_)) | refine RetP.nrm ?_) <;> conv => whnf)
          simp
        | false =>
          refine Fun.of (op_constraintref29_Score (by simp) ?_) rfl rfl
          conv => whnf
          conv => whnf
          repeat' ((first | (refine gF ?_; first | refine CallN.fn (hho) ?_ | refine CallN.fn (hkn) ?_ | refine CallN.fn (hu) ?_) | (refine gC ?_; first | refine cN ?_ | (refine gD ?_; refine cJ ?_)) | (refine gW ?_; refine wI ?_) | (refine gL ?_; refine .map ?_) | (refine gI ?_; (refine gM ?_; refine iF ?_)) | refine RetP.nrm ?_) <;> conv => whnf)
          simp
    · have e : scoreP p keys rule done head = 0 := by
        unfold scoreP
        rw [if_neg (by omega), hr]
        simp only
        split
        · rfl
        · rw [List.getElem?_eq_none (by omega)]
      rw [e]
      by_cases h0 : head < 0
      · refine Fun.of (op_constraintref29_Score (by simp) ?_) rfl rfl
        conv => whnf
        conv => whnf
        repeat' ((first | (refine gF ?_; refine CallN.fn (hho) ?_) | (refine gC ?_; first | refine cY ?_ | (refine gD ?_; first | refine cI ?_ | refine cJ ?_)) | (refine gL ?_; refine .map ?_) | (refine gI ?_; (refine gM ?_; refine iF ?_)) | refine RetP.nrm ?_) <;> conv => whnf)
      · refine Fun.of (op_constraintref29_Score (by simp) ?_) rfl rfl
        conv => whnf
        conv => whnf
        repeat' ((first | (refine gF ?_; refine CallN.fn (hho) ?_) | (refine gC ?_; (refine gD ?_; first | refine cI ?_ | refine cJ ?_)) | (refine gL ?_; refine .map ?_) | (refine gI ?_; (refine gM ?_; refine iF ?_)) | refine RetP.nrm ?_) <;> conv => whnf)
end Go.CK

set_option linter.unusedSimpArgs false
set_option linter.unusedVariables false
namespace Go.CK
open Go.AM Go.Proofs
theorem kvs_take_mem {hs : List At} {done : List Int} {i : Nat} {x : Int} (h : x ∈ kvs hs (done.take i)) : x ∈ kvs hs done := by
  have := kvs_app hs (done.take i) (done.drop i)
  rw [List.take_append_drop] at this
  rw [this]
  exact List.mem_append_left _ h
end Go.CK

set_option linter.unusedSimpArgs false
set_option linter.unusedVariables false
namespace Go.CK
open Go.AM Go.Proofs

set_option maxRecDepth 100000 in
theorem prop_ok {x : Rl} : Fun Tryz.prog 60 [x.av] (.bool (decide ((x.remove.length : Int) = 0))) := by
  refine Fun.of (op_occur_Propagation (by simp) ?_) rfl rfl
  conv => whnf
  conv => whnf
  repeat' ((first | (refine gL ?_; refine .map ?_) | refine RetP.nrm ?_) <;> conv => whnf)
def others (k : Int) : Nat → List Int
  | 0 => []
  | j + 1 => others k j ++ if (j : Int) = k then [] else [(j : Int)]
theorem others_len (k : Int) : ∀ j, (others k j).length ≤ j
  | 0 => Nat.le_refl _
  | j + 1 => by
    have := others_len k j
    simp only [others, List.length_append]
    split <;> simp <;> omega
def Pg.partners (p : Pg) (o : Oc) : List Int :=
  if o.rule < 0 then [] else match p.rules[o.rule.toNat]? with
    | none => []
    | some x => if o.head < 0 ∨ (x.heads.length : Int) ≤ o.head then [] else others o.head x.heads.length
/-- no rule has many heads -/
def Pg.ok (p : Pg) : Prop := ∀ x ∈ p.rules, x.keep.length + x.remove.length ≤ 100000 ∧ x.heads.length = x.keep.length + x.remove.length
theorem Pg.partners_nil {p : Pg} {o : Oc} (h : p.rules.length ≤ o.rule) : p.partners o = [] := by
  unfold Pg.partners
  rw [List.getElem?_eq_none (show p.rules.length ≤ o.rule.toNat by omega)]
  split <;> rfl
theorem Pg.partners_at {p : Pg} {o : Oc} {x : Rl} (h : p.rules[o.rule.toNat]? = some x) (h0 : 0 ≤ o.rule) : p.partners o = if o.head < 0 ∨ (x.heads.length : Int) ≤ o.head then [] else others o.head x.heads.length := by
  unfold Pg.partners
  rw [h, if_neg (by omega)]
theorem sl_eq {o : Cap} {l m : List AV} (h : l = m) : AV.sl o l = AV.sl o m := by rw [h]
set_option maxRecDepth 100000 in
theorem refPartners_ok {p : Pg} (hp : p.ok) {o : Oc} : Fun Tryz.prog 27 [p.av, o.av] (.sl .no ((p.partners o).map intA)) := by
  refine Fun.of (op_constraintref16_Partners (by simp) ?_) rfl rfl
  conv => whnf
  conv => whnf
  repeat' ((first | (refine gC ?_; first | refine cY ?_ | (refine gD ?_; first | refine cI ?_ | refine cJ ?_) | refine CondN.lt (fun hc => ?_) (fun hc => ?_) | refine CondN.le (fun hc => ?_) (fun hc => ?_)) | (refine gW ?_; refine wI ?_) | (refine gL ?_; refine .map ?_) | (refine gI ?_; (refine gM ?_; first | refine iF ?_ | (refine iI fun x hx => ?_; try have hm := hp x (List.mem_of_getElem? hx)))) | refine RetP.nrm ?_) <;> conv => whnf)
  · simp [Pg.partners, hc]
  · rw [Pg.partners_nil hc]; rfl
  · rw [Pg.partners_at hx (by omega), if_pos (by omega)]; rfl
  · rw [Pg.partners_at hx (by omega), if_pos (by omega)]; rfl
  · rw [Pg.partners_at hx (by omega), if_neg (by omega)]
    have hol := fun j => others_len o.head j
    refine LoopP.count (fb := true) (x.heads.length) (fun st_ j => st_.sets [(6, .sl (.own 1) ((others o.head j).map intA)), (7, .int .i64 j)]) (fun _ => True) trivial ?_ (fun j hj _ => ?_) (fun _ => ?_)
    · refine EndN.at_ ?_ rfl
      conv => whnf
      refine And.intro ?_ ?_ <;> conv => whnf
      all_goals repeat' ((first | (refine gV ?_; first | refine vE ?_ | refine vI ?_ | ((refine gK ?_; refine vD ?_ ?_); (focus (simp [AV.norm, AV.norm1, others]; done)))) | (refine gX ?_; refine xB ?_) | exact True.intro) <;> conv => whnf)
    · have hoj := others_len o.head j
      conv => whnf
      repeat' ((first | (refine gC ?_; first | refine .not ?_ | (refine gD ?_; refine cI ?_) | refine CondN.dec (fun hc => ?_) (fun hc => ?_)) | (refine gW ?_; refine wI ?_) | (refine gN ?_; refine nS ?_)) <;> conv => whnf)
      · refine ⟨trivial, ?_⟩
        refine EndN.at_ ?_ rfl
        conv => whnf
        refine And.intro ?_ ?_ <;> conv => whnf
        all_goals repeat' ((first | (refine gV ?_; first | refine vE ?_ | refine vI ?_ | (refine WkN.sl ?_ ?_; (focus (simp [AV.norm, AV.norm1, others, hc]; done)))) | (refine gX ?_; refine xB ?_) | exact True.intro) <;> conv => whnf)
      · refine ⟨trivial, ?_⟩
        refine EndN.at_ ?_ rfl
        conv => whnf
        refine And.intro ?_ ?_ <;> conv => whnf
        all_goals repeat' ((first | (refine gV ?_; first | refine vE ?_ | refine vI ?_ | (refine WkN.sl ?_ ?_; (focus (simp [AV.norm, AV.norm1, others, hc]; done)))) | (refine gX ?_; refine xB ?_) | exact True.intro) <;> conv => whnf)
    · conv => whnf
      repeat' ((first | (refine gC ?_; (refine gD ?_; refine cJ ?_)) | refine RetP.nrm ?_) <;> conv => whnf)
/-- the occurrences of rule i, from the last head on, with their heads -/
def occY (i : Nat) (x : Rl) : Nat → List (Oc × At)
  | 0 => []
  | j + 1 => occY i x j ++ [(⟨i, (x.heads.length : Int) - 1 - j, decide ((x.heads.length : Int) - 1 - j < x.keep.length)⟩, (x.heads[x.heads.length - 1 - j]?).getD ⟨.empty, []⟩)]
def allY (l : List Rl) : Nat → List (Oc × At)
  | 0 => []
  | j + 1 => allY l j ++ match l[j]? with
    | none => []
    | some x => occY j x x.heads.length
def ocs (l : List (Oc × At)) : List AV := l.map fun y => y.1.av
theorem occY_len (i : Nat) (x : Rl) : ∀ j, (occY i x j).length = j
  | 0 => rfl
  | j + 1 => by simp [occY, occY_len i x j]
theorem ocs_len (l : List (Oc × At)) : (ocs l).length = l.length := by simp [ocs]
theorem allY_len {p : Pg} (hp : p.ok) : ∀ j, (allY p.rules j).length ≤ 100000 * j
  | 0 => Nat.zero_le _
  | j + 1 => by
    have := allY_len hp j
    simp only [allY, List.length_append]
    split
    · simp; omega
    · rename_i x hx
      have := hp x (List.mem_of_getElem? hx)
      rw [occY_len]; omega
theorem Szs.ocs {l : List (Oc × At)} : Szs 3 (ocs l) := .map fun _ => rfl
def Pg.occs (p : Pg) : List Oc := (allY p.rules p.rules.length).map (·.1)
theorem occs_av (p : Pg) : p.occs.map Oc.av = ocs (allY p.rules p.rules.length) := by simp [Pg.occs, ocs]
set_option maxRecDepth 100000 in
theorem refAll_ok {p : Pg} (hp : p.ok) (hll : p.rules.length ≤ 10000) : Fun Tryz.prog 19 [p.av] (.sl .no (p.occs.map Oc.av)) := by
  rw [occs_av]
  refine Fun.of (op_constraintref16_All (by simp) ?_) rfl rfl
  conv => whnf
  conv => whnf
  skip
  refine LoopP.count (fb := true) (p.rules.length) (fun st_ j => st_.sets [(3, .sl (.own 3) (ocs (allY p.rules j))), (4, .int .i64 j)]) (fun _ => True) trivial ?_ (fun j hj _ => ?_) (fun _ => ?_)
  · refine EndN.at_ ?_ rfl
    conv => whnf
    refine And.intro ?_ ?_ <;> conv => whnf
    all_goals repeat' ((first | (refine gV ?_; first | refine vE ?_ | refine vI ?_ | ((refine gK ?_; refine vD ?_ ?_); (focus (simp [AV.norm, AV.norm1, allY, ocs]; done)))) | (refine gX ?_; refine xB ?_) | exact True.intro) <;> conv => whnf)
  · have h1 := allY_len hp j
    conv => whnf
    repeat' ((first | (refine gC ?_; (refine gD ?_; refine cI ?_)) | (refine gW ?_; refine wI ?_) | (refine gL ?_; refine .map ?_) | (refine gI ?_; (refine gM ?_; first | refine iE ?_ | (refine iH fun x hx => ?_; try have hm := hp x (List.mem_of_getElem? hx))))) <;> conv => whnf)
    refine LoopP.count (fb := true) (x.heads.length) (fun st_ i => st_.sets [(3, .sl (.own 3) (ocs (allY p.rules j ++ occY j x i))), (6, .int .i64 ((x.heads.length : Int) - 1 - i))]) (fun _ => True) trivial ?_ (fun i hi _ => ?_) (fun _ => ?_)
    · refine EndN.at_ ?_ rfl
      conv => whnf
      refine And.intro ?_ ?_ <;> conv => whnf
      all_goals repeat' ((first | (refine gV ?_; first | refine vE ?_ | refine vI ?_ | (refine WkN.sl ?_ ?_; (focus (simp [AV.norm, AV.norm1, occY]; done)))) | (refine gX ?_; refine xB ?_) | exact True.intro) <;> conv => whnf)
    · have h2 := occY_len j x i
      have h3 : (ocs (allY p.rules j ++ occY j x i)).length ≤ 100000 * j + i := by rw [ocs_len, List.length_append]; omega
      conv => whnf
      repeat' ((first | (refine gC ?_; (refine gD ?_; refine cI ?_)) | (refine gW ?_; refine wI ?_) | (refine gN ?_; refine nS ?_)) <;> conv => whnf)
      refine ⟨trivial, ?_⟩
      refine EndN.at_ ?_ rfl
      conv => whnf
      refine And.intro ?_ ?_ <;> conv => whnf
      all_goals repeat' ((first | (refine gV ?_; first | refine vE ?_ | refine vI ?_ | (refine WkN.sl ?_ ?_; (focus (simp [AV.norm, AV.norm1, occY, ocs, Oc.av]; done)))) | (refine gX ?_; refine xB ?_) | exact True.intro) <;> conv => whnf)
    · conv => whnf
      repeat' ((first | (refine gC ?_; (refine gD ?_; refine cJ ?_)) | (refine gW ?_; refine wI ?_)) <;> conv => whnf)
      refine ⟨trivial, ?_⟩
      refine EndN.at_ ?_ rfl
      conv => whnf
      refine And.intro ?_ ?_ <;> conv => whnf
      all_goals repeat' ((first | (refine gV ?_; first | refine vE ?_ | refine vI ?_ | (refine WkN.sl ?_ ?_; (focus (simp [AV.norm, AV.norm1, allY, hx]; done)))) | (refine gX ?_; refine xB ?_) | exact True.intro) <;> conv => whnf)
  · conv => whnf
    repeat' ((first | (refine gC ?_; (refine gD ?_; refine cJ ?_)) | (refine gL ?_; refine .map ?_) | refine RetP.nrm ?_) <;> conv => whnf)
set_option maxRecDepth 100000 in
theorem occEach_ok {p : Pg} : Fun Tryz.prog 42 [p.av] (.fn (.func 63) [] [.ept p.av.cells]) := by
  refine Fun.of (op_occur_each (by simp) ?_) rfl rfl
  conv => whnf
  conv => whnf
  skip
  refine RetP.of (RetN.freeze 0 rfl rfl rfl rfl ?_)
  conv => whnf
  rfl
def ysA (l : List (Oc × At)) : List (List AV) := l.map fun y => [y.1.av, y.2.av]
theorem allY_succ {l : List Rl} {j : Nat} {x : Rl} (h : l[j]? = some x) : allY l (j + 1) = allY l j ++ occY j x x.heads.length := by simp [allY, h]
theorem allY_split {l : List Rl} {j : Nat} (hj : j ≤ l.length) : ∃ r, allY l l.length = allY l j ++ r := by
  have : ∀ k, ∃ r, allY l (j + k) = allY l j ++ r := fun k => by
    induction k with
    | zero => exact ⟨[], by simp⟩
    | succ k ih =>
      obtain ⟨r, hr⟩ := ih
      exact ⟨_, by rw [← Nat.add_assoc, allY, hr, List.append_assoc]⟩
  obtain ⟨r, hr⟩ := this (l.length - j)
  rw [show j + (l.length - j) = l.length by omega] at hr
  exact ⟨r, hr⟩
theorem occY_split {i : Nat} {x : Rl} {n k : Nat} (hk : k ≤ n) : ∃ r, occY i x n = occY i x k ++ r := by
  have : ∀ m, ∃ r, occY i x (k + m) = occY i x k ++ r := fun m => by
    induction m with
    | zero => exact ⟨[], by simp⟩
    | succ m ih =>
      obtain ⟨r, hr⟩ := ih
      exact ⟨_, by rw [← Nat.add_assoc, occY, hr, List.append_assoc]⟩
  obtain ⟨r, hr⟩ := this (n - k)
  rw [show k + (n - k) = n by omega] at hr
  exact ⟨r, hr⟩
theorem ys_split {l : List Rl} {i : Nat} {x : Rl} (hx : l[i]? = some x) {k : Nat} (hk : k < x.heads.length) {h : At} (hh : x.heads[x.heads.length - 1 - k]? = some h) :
    ∃ rest, ysA (allY l i ++ occY i x k) ++ [(⟨i, (x.heads.length : Int) - 1 - k, decide ((x.heads.length : Int) - 1 - k < x.keep.length)⟩ : Oc).av, h.av] :: rest = ysA (allY l l.length) := by
  have hi : i < l.length := (List.getElem?_eq_some_iff.1 hx).1
  obtain ⟨r, hr⟩ := allY_split (l := l) (j := i + 1) hi
  obtain ⟨q, hq⟩ := occY_split (i := i) (x := x) (n := x.heads.length) (k := k + 1) hk
  refine ⟨ysA (q ++ r), ?_⟩
  rw [hr, allY_succ hx, hq]
  simp [ysA, occY, hh]
set_option maxRecDepth 100000 in
theorem occEach_iter {p : Pg} (hp : p.ok) (hll : p.rules.length ≤ 10000) : IterF Tryz.prog 63 [.ept p.av.cells] (ysA (allY p.rules p.rules.length)) := by
  intro b bs J Jx hb hJ hJx hr h0
  refine opS_occur_each_1 (by simp) ?_
  conv => whnf
  repeat' ((refine gL ?_; refine .map ?_) <;> conv => whnf)
  refine LoopP.by (fb := false) (fun _ (q : Nat × List Box) => ⟨[(0, .yl b), (8, .sl .no (p.rules.map Rl.av)), (9, .int .i64 p.rules.length), (10, .int .i64 q.1)], q.2, bs.length⟩) (fun q => q.1 ≤ p.rules.length ∧ J (ysA (allY p.rules q.1)) q.2) (fun q => p.rules.length - q.1) (0, bs) ⟨by simp, h0⟩ (EndN.eqS rfl rfl rfl) ?_
  rintro ⟨i, bs1⟩ ⟨hi, hj1⟩
  dsimp only at hi hj1 ⊢
  have hbl := hJ _ _ hj1
  by_cases hlt : i < p.rules.length
  · conv => whnf
    repeat' ((first | (refine gF ?_; refine CallN.fn (heads_ok (hp _ (List.mem_of_getElem? (by assumption))).1) ?_) | (refine gC ?_; (refine gD ?_; refine cI ?_)) | (refine gW ?_; refine wI ?_) | (refine gL ?_; refine .map ?_) | (refine gI ?_; (refine gM ?_; (refine iH fun x hx => ?_; try have hm := hp x (List.mem_of_getElem? hx)))) | (refine gB ?_; refine .last ?_) | refine BxSet.last ?_) <;> conv => whnf)
    refine LoopP.by (fb := false) (fun _ (q : Nat × List Box) => ⟨[(0, .yl b), (3, .int .i64 i), (4, .ptr q.2.length 0), (5, .sl .no (x.heads.map At.av)), (6, .int .i64 ((x.heads.length : Int) - 1 - q.1)), (8, .sl .no (p.rules.map Rl.av)), (9, .int .i64 p.rules.length), (10, .int .i64 i)], q.2 ++ [.cells x.av.cells], bs.length⟩)
      (fun q => q.1 ≤ x.heads.length ∧ J (ysA (allY p.rules i ++ occY i x q.1)) q.2) (fun q => x.heads.length - q.1) (0, bs1) ⟨Nat.zero_le _, by simpa [occY] using hj1⟩ (EndN.atS ?_ rfl rfl) ?_
    · conv => whnf
      repeat' ((first | (refine gV ?_; first | refine vE ?_ | refine vI ?_) | exact True.intro) <;> conv => whnf)
    rintro ⟨k, bs2⟩ ⟨hk, hj2⟩
    dsimp only at hk hj2 ⊢
    have hbl2 := hJ _ _ hj2
    by_cases hkl : k < x.heads.length
    · obtain ⟨h, hh⟩ : ∃ h, x.heads[x.heads.length - 1 - k]? = some h := ⟨_, List.getElem?_eq_getElem (by omega)⟩
      have hhi : x.heads[((x.heads.length : Int) - 1 - k).toNat]? = some h := by
        rw [show ((x.heads.length : Int) - 1 - k).toNat = x.heads.length - 1 - k by omega]; exact hh
      obtain ⟨rest, hrest⟩ := ys_split hx hkl hh
      conv => whnf
      repeat' ((first | (refine gC ?_; (refine gD ?_; refine cI ?_)) | (refine gL ?_; refine .map ?_) | (refine gI ?_; (refine gM ?_; refine iF ?_)) | (refine gB ?_; refine .last ?_)) <;> conv => whnf)
      refine YieldN.of (hr _ _ rest bs2 [.cells x.av.cells] hrest hj2) ?_
      rintro r bs3 ⟨own, rfl, h⟩
      rcases h with ⟨rfl, hj3⟩ | ⟨rfl, hj3⟩
      · have hbl3 := hJ _ _ hj3
        conv => whnf
        repeat' ((first | (refine gC ?_; first | refine cY ?_ | refine .not ?_) | (refine gW ?_; refine wI ?_)) <;> conv => whnf)
        refine ⟨(k + 1, own), ⟨⟨hkl, ?_⟩, by simp; omega⟩, EndN.atS ?_ rfl rfl⟩
        · have e : ysA (allY p.rules i ++ occY i x (k + 1)) = ysA (allY p.rules i ++ occY i x k) ++ [[(⟨i, (x.heads.length : Int) - 1 - k, decide ((x.heads.length : Int) - 1 - k < x.keep.length)⟩ : Oc).av, h.av]] := by simp [ysA, occY, hh]
          dsimp only
          rw [e]; exact hj3
        · have he : bs2.length = own.length := by omega
          conv => whnf
          repeat' ((first | (refine gV ?_; first | refine vE ?_ | refine vI ?_ | (refine WkN.norm ?_ ?_; (focus (simp [AV.norm, AV.norm1, he]; done)))) | exact True.intro) <;> conv => whnf)
      · have hbl3 := hJx _ hj3
        conv => whnf
        repeat' ((refine gC ?_; first | refine cN ?_ | refine .not ?_) <;> conv => whnf)
        refine RetP.keep [] ?_
        refine RetP.cutS (own := own) rfl (by simp [St.keep]; omega) rfl (by rw [hbl3.1]; exact hbl3.2) ?_
        conv => whnf
        repeat' (refine RetP.nrm ?_ <;> conv => whnf)
        exact .inr hj3
    · have hke : k = x.heads.length := by omega
      subst hke
      conv => whnf
      repeat' ((first | (refine gC ?_; (refine gD ?_; refine cJ ?_)) | (refine gW ?_; refine wI ?_)) <;> conv => whnf)
      refine ⟨(i + 1, bs2), ⟨⟨by simp; omega, ?_⟩, by simp; omega⟩, EndN.cutS rfl (by simp; omega) (by simp [envLt, AV.lt, AV.lt1, AV.lt0, AV.flat1]; omega) (by rw [hbl2.1]; exact hbl2.2) (EndN.atS ?_ rfl rfl)⟩
      · simpa [allY_succ hx] using hj2
      · conv => whnf
        repeat' ((first | (refine gV ?_; first | refine vE ?_ | refine vI ?_) | exact True.intro) <;> conv => whnf)
  · have hie : i = p.rules.length := by omega
    conv => whnf
    repeat' ((first | (refine gC ?_; (refine gD ?_; refine cJ ?_)) | refine RetP.nrm ?_) <;> conv => whnf)
    exact .inl (hie ▸ hj1)
set_option maxRecDepth 100000 in
theorem all_ok {p : Pg} (hp : p.ok) (hll : p.rules.length ≤ 10000) : Fun Tryz.prog 17 [p.av] (.sl .no (p.occs.map Oc.av)) := by
  rw [occs_av]
  have hal := allY_len hp p.rules.length
  refine Fun.of (op_occur_All (by simp) ?_) rfl rfl
  conv => whnf
  conv => whnf
  repeat' ((refine gF ?_; refine CallN.fn (occEach_ok) ?_) <;> conv => whnf)
  refine RangeP.each (fun y : Oc × At => [y.1.av, y.2.av]) (allY p.rules p.rules.length) ⟨[(2, .sl .full []), (3, .ptr 1 0), (6, .fn (.func 63) [] [.ept p.av.cells])], [.cells [.sl .no (p.decls.map Dc.av), .sl .no (p.rules.map Rl.av)], .cells [.sl (.own 3) []]], 0⟩
    (fun pre => [.cells [.sl .no (p.decls.map Dc.av), .sl .no (p.rules.map Rl.av)], .cells [.sl (.own 3) (ocs pre)]]) (occEach_iter hp hll) (by kernel_rfl) ?_ rfl (fun _ => rfl) (fun _ => rfl) rfl (fun _ => ⟨rfl, rfl⟩) ?_ ?_
  · refine EndN.claimB 1 0 3 rfl (by simp) ?_
    exact EndN.eqS rfl rfl rfl
  · intro x pre y rest hxs
    have hpl : (ocs pre).length + 1 ≤ 100000 * p.rules.length := by
      have := congrArg List.length hxs
      simp at this
      rw [ocs_len]; omega
    conv => whnf
    repeat' ((first | (refine gN ?_; refine nS ?_) | (refine gA ?_; refine aP ?_)) <;> conv => whnf)
    refine RoundP.by ?_ rfl rfl rfl
    conv => whnf
    repeat' ((first | refine xB ?_ | (refine BxN.mk ?_ ?_; (focus (simp [ocs, Oc.av]; done))) | exact True.intro) <;> conv => whnf)
  · conv => whnf
    repeat' (refine RetP.nrm ?_ <;> conv => whnf)
end Go.CK

set_option linter.unusedSimpArgs false
set_option linter.unusedVariables false
namespace Go.CK
open Go.AM Go.Proofs
def isOc (o x : Oc) : Bool := decide (o = x)
theorem isOc_yes {o x : Oc} (h1 : o.rule = x.rule) (h2 : o.head = x.head) (h3 : o.kept = x.kept) : isOc o x = true := decide_eq_true (Oc.ext h1 h2 h3)
theorem isOc_no {α : Type} {o x : Oc} (f : Oc → α) (h : ¬ f o = f x) : isOc o x = false := decide_eq_false fun e => h (by rw [e])
theorem any_isOc (l : List Oc) (o : Oc) : l.any (isOc o) = decide (o ∈ l) := by
  rw [Bool.eq_iff_iff, List.any_eq_true, decide_eq_true_eq]
  exact ⟨fun ⟨x, h, e⟩ => (of_decide_eq_true e : o = x) ▸ h, fun h => ⟨o, h, decide_eq_true rfl⟩⟩
set_option maxRecDepth 100000 in
theorem indexOc_ok {l : List Oc} {o : Oc} : Fun Tryz.prog 45 [slA Oc.av l, o.av] (.int .i64 (findI (isOc o) l)) := by
  refine Fun.assume rfl fun hg0 => ?_
  have hg := (good_sla (hg0 (slA Oc.av l) (by simp))).1
  refine Fun.of (op_slices_Index_api_Occ_api_Occ (by simp) ?_) rfl rfl
  conv => whnf
  conv => whnf
  repeat' ((refine gL ?_; refine .map ?_) <;> conv => whnf)
  refine LoopP.count (fb := true) (l.length) (fun st_ j => st_.sets [(8, .int .i64 j)]) (fun j => ∀ i x, i < j → l[i]? = some x → isOc o x = false) ?_ ?_ (fun j hj hij => ?_) (fun hij => ?_)
  · exact no_zero
  · refine EndN.at_ ?_ rfl
    conv => whnf
    refine And.intro ?_ ?_ <;> conv => whnf
    all_goals repeat' ((first | (refine gV ?_; first | refine vE ?_ | refine vI ?_) | (refine gX ?_; refine xB ?_) | exact True.intro) <;> conv => whnf)
  · conv => whnf
    repeat' ((first | (refine gC ?_; first | refine cY ?_ | (refine gD ?_; refine cI ?_) | with_reducible refine CondN.and ?_ | refine CondN.dec (fun hc => ?_) (fun hc => ?_)) | (refine gW ?_; refine wI ?_) | (refine gI ?_; (refine gM ?_; refine iH fun x hx => ?_)) | refine RetP.nrm ?_) <;> conv => whnf)
    · rw [findI_at hij (by assumption) (isOc_yes (by assumption) (by assumption) (by assumption))]
    · refine ⟨no_succ hij (by assumption) (isOc_no Oc.kept (by assumption)), ?_⟩
      refine EndN.at_ ?_ rfl
      conv => whnf
      refine And.intro ?_ ?_ <;> conv => whnf
      all_goals repeat' ((first | (refine gV ?_; first | refine vE ?_ | refine vI ?_) | (refine gX ?_; refine xB ?_) | exact True.intro) <;> conv => whnf)
    · refine ⟨no_succ hij (by assumption) (isOc_no Oc.head (by assumption)), ?_⟩
      refine EndN.at_ ?_ rfl
      conv => whnf
      refine And.intro ?_ ?_ <;> conv => whnf
      all_goals repeat' ((first | (refine gV ?_; first | refine vE ?_ | refine vI ?_) | (refine gX ?_; refine xB ?_) | exact True.intro) <;> conv => whnf)
    · refine ⟨no_succ hij (by assumption) (isOc_no Oc.rule (by assumption)), ?_⟩
      refine EndN.at_ ?_ rfl
      conv => whnf
      refine And.intro ?_ ?_ <;> conv => whnf
      all_goals repeat' ((first | (refine gV ?_; first | refine vE ?_ | refine vI ?_) | (refine gX ?_; refine xB ?_) | exact True.intro) <;> conv => whnf)
  · conv => whnf
    repeat' ((first | (refine gC ?_; (refine gD ?_; refine cJ ?_)) | refine RetP.nrm ?_) <;> conv => whnf)
    rw [findI_no hij]
set_option maxRecDepth 100000 in
theorem containsOc_ok {l : List Oc} {o : Oc} : Fun Tryz.prog 21 [slA Oc.av l, o.av] (.bool (decide (o ∈ l))) := by
  rw [← any_isOc, ← findI_pos]
  refine Fun.of (op_slices_Contains_api_Occ_api_Occ (by simp) ?_) rfl rfl
  conv => whnf
  conv => whnf
  repeat' ((first | (refine gF ?_; refine CallN.fn (indexOc_ok (l := l) (o := o)) ?_) | refine RetP.nrm ?_) <;> conv => whnf)
set_option maxRecDepth 100000 in
theorem isOcc_ok {p : Pg} {o : Oc} (hp : p.ok) (hl : p.rules.length ≤ 10000) : Fun Tryz.prog 26 [p.av, o.av] (.bool (decide (o ∈ p.occs))) := by
  rw [← any_isOc]
  have hb : p.occs.length ≤ 1000000000 := by
    have := allY_len hp p.rules.length
    simp only [Pg.occs, List.length_map]
    omega
  refine Fun.of (op_constraintref29_isOcc (by simp) ?_) rfl rfl
  conv => whnf
  conv => whnf
  repeat' ((refine gF ?_; refine CallN.fn (refAll_ok (p := p) hp hl) ?_) <;> conv => whnf)
  refine LoopP.count (fb := true) (p.occs.length) (fun st_ j => st_.sets [(6, .int .i64 j)]) (fun j => ∀ i x, i < j → p.occs[i]? = some x → isOc o x = false) ?_ ?_ (fun j hj hij => ?_) (fun hij => ?_)
  · exact no_zero
  · refine EndN.at_ ?_ rfl
    conv => whnf
    refine And.intro ?_ ?_ <;> conv => whnf
    all_goals repeat' ((first | (refine gV ?_; first | refine vE ?_ | refine vI ?_) | (refine gX ?_; refine xB ?_) | exact True.intro) <;> conv => whnf)
  · obtain ⟨x, hx⟩ : ∃ x, p.occs[j]? = some x := ⟨_, List.getElem?_eq_getElem hj⟩
    conv => whnf
    repeat' ((first | (refine gC ?_; first | refine cY ?_ | (refine gD ?_; refine cI ?_) | with_reducible refine CondN.and ?_ | refine CondN.dec (fun hc => ?_) (fun hc => ?_)) | (refine gW ?_; refine wI ?_) | (refine gL ?_; refine .map ?_) | (refine gI ?_; (refine gM ?_; refine iE ?_)) | refine RetP.nrm ?_) <;> conv => whnf)
    · rw [show p.occs.any (isOc o) = true from List.any_eq_true.2 ⟨x, List.mem_of_getElem? hx, isOc_yes (Eq.symm (by assumption)) (Eq.symm (by assumption)) (Eq.symm (by assumption))⟩]
    · refine ⟨no_succ hij hx (isOc_no Oc.kept (Ne.symm (by assumption))), ?_⟩
      refine EndN.at_ ?_ rfl
      conv => whnf
      refine And.intro ?_ ?_ <;> conv => whnf
      all_goals repeat' ((first | (refine gV ?_; first | refine vE ?_ | refine vI ?_) | (refine gX ?_; refine xB ?_) | exact True.intro) <;> conv => whnf)
    · refine ⟨no_succ hij hx (isOc_no Oc.head (Ne.symm (by assumption))), ?_⟩
      refine EndN.at_ ?_ rfl
      conv => whnf
      refine And.intro ?_ ?_ <;> conv => whnf
      all_goals repeat' ((first | (refine gV ?_; first | refine vE ?_ | refine vI ?_) | (refine gX ?_; refine xB ?_) | exact True.intro) <;> conv => whnf)
    · refine ⟨no_succ hij hx (isOc_no Oc.rule (Ne.symm (by assumption))), ?_⟩
      refine EndN.at_ ?_ rfl
      conv => whnf
      refine And.intro ?_ ?_ <;> conv => whnf
      all_goals repeat' ((first | (refine gV ?_; first | refine vE ?_ | refine vI ?_) | (refine gX ?_; refine xB ?_) | exact True.intro) <;> conv => whnf)
  · conv => whnf
    repeat' ((first | (refine gC ?_; (refine gD ?_; refine cJ ?_)) | (refine gL ?_; refine .map ?_) | refine RetP.nrm ?_) <;> conv => whnf)
    rw [any_noF hij]
end Go.CK

set_option linter.unusedSimpArgs false
set_option linter.unusedVariables false
namespace Go.CK
open Go.AM Go.Proofs
set_option maxRecDepth 100000 in
theorem goalVars_ok {x : Gl} (hl : (Tm.vss x.args).length ≤ 100000) : Fun Tryz.prog 84 [x.av] (slA intA (firsts (Tm.vss x.args))) := by
  refine Fun.of (op_term_GoalVars (by simp) ?_) rfl rfl
  conv => whnf
  conv => whnf
  repeat' ((first | (refine gF ?_; first | refine CallN.fn (each_ok) ?_ | refine CallN.fn (once_ok hl) ?_) | refine RetP.nrm ?_) <;> conv => whnf)
set_option maxRecDepth 100000 in
theorem refGoalVars_ok {x : Gl} (hl : (Tm.vss x.args).length ≤ 100000) : Fun Tryz.prog 86 [x.av] (slA intA (firsts (Tm.vss x.args))) := by
  refine Fun.of (op_constraintref03_GoalVars (by simp) ?_) rfl rfl
  conv => whnf
  conv => whnf
  repeat' ((first | (refine gF ?_; refine CallN.fn (varsOf_ok hl) ?_) | refine RetP.nrm ?_) <;> conv => whnf)
/-- all variables of a goal are among these -/
def coversB (xs : List Int) (g : Gl) : Bool := (firsts (Tm.vss g.args)).all fun v => decide (v ∈ xs)
set_option maxRecDepth 100000 in
theorem covers_ok {bs : List Box} {b : Nat} {xs : List Int} {g : Gl} (hl : (Tm.vss g.args).length ≤ 100000) (hbb : boxesLt bs.length bs = true) (hb : bs[b]? = some (.mp (msOf (.bool true) xs))) : AM.Sem Tryz.prog 70 [.mpt b, g.av] bs fun r bs' => r = .bool (coversB xs g) ∧ bs' = bs := by
  have hblt : b < bs.length := (List.getElem?_eq_some_iff.1 hb).1
  refine opS_guard_known_covers (by simp) ?_
  conv => whnf
  repeat' ((first | (refine gF ?_; refine CallN.fn (goalVars_ok (x := g) hl) ?_) | (refine gL ?_; refine .map ?_) | (refine gB ?_; refine .last ?_)) <;> conv => whnf)
  unfold coversB
  have hvl : (firsts (Tm.vss g.args)).length ≤ 100000 := by
    have := addVs_len (Tm.vss g.args) []
    simp only [List.length_nil] at this
    unfold firsts; omega
  generalize firsts (Tm.vss g.args) = vs at *
  obtain ⟨bg, hbg⟩ : ∃ bg, bg = [AV.int .i64 g.op, .str g.name, .sl .no (g.args.map Tm.av)] := ⟨_, rfl⟩
  have hb2 : (bs ++ [Box.cells bg])[b]? = some (.mp (msOf (.bool true) xs)) := by rw [List.getElem?_append_left hblt]; exact hb
  rw [← hbg]
  refine LoopP.count (fb := false) vs.length (fun st_ j => ⟨[(0, .mpt b), (8, slA intA vs), (9, .int .i64 vs.length), (10, .int .i64 j)], bs ++ [Box.cells bg], bs.length⟩) (fun j => ∀ i x, i < j → vs[i]? = some x → decide (x ∈ xs) = true) (fun i x hi => by omega) ?_ (fun j hj hij => ?_) (fun hij => ?_)
  · refine EndN.atS ?_ rfl rfl
    conv => whnf
    repeat' ((first | (refine gV ?_; first | refine vE ?_ | refine vI ?_) | exact True.intro) <;> conv => whnf)
  · obtain ⟨y, hy⟩ : ∃ y, vs[j]? = some y := ⟨_, List.getElem?_eq_getElem hj⟩
    conv => whnf
    repeat' ((first | (refine gC ?_; first | refine cY ?_ | refine cN ?_ | refine .not ?_ | (refine gD ?_; refine cI ?_)) | (refine gW ?_; refine wI ?_) | (refine gI ?_; (refine gM ?_; refine iE ?_)) | (refine gMp ?_; refine mA ?_) | (refine gMs ?_; refine mS (fun hc => ?_) (fun hc => ?_))) <;> conv => whnf)
    · refine ⟨yes_succ hij hy (decide_eq_true (by assumption)), ?_⟩
      refine EndN.atS ?_ rfl rfl
      conv => whnf
      repeat' ((first | (refine gV ?_; first | refine vE ?_ | refine vI ?_) | exact True.intro) <;> conv => whnf)
    · refine RetP.cutS rfl (Nat.le_refl _) rfl hbb ?_
      refine RetP.slot ⟨?_, rfl⟩
      rw [all_no hy (decide_eq_false (by assumption))]; rfl
  · conv => whnf
    repeat' ((refine gC ?_; (refine gD ?_; refine cJ ?_)) <;> conv => whnf)
    refine RetP.cutS rfl (Nat.le_refl _) rfl hbb ?_
    refine RetP.slot ⟨?_, rfl⟩
    rw [all_yes hij]; rfl
theorem RetP.nil {s : St} {Q : AV → List Box → Prop} (h : Q (.tup []) s.bs) : RetP s [] Q := ⟨s, Weak.refl s, .inl h⟩
theorem set_same {α : Type} {l : List α} {b : Nat} {x : α} (h : l[b]? = some x) : l.set b x = l := by
  obtain ⟨hb, rfl⟩ := List.getElem?_eq_some_iff.1 h
  exact List.set_getElem_self hb
theorem kvs_one_no {hs : List At} {k : Int} (h : k < 0 ∨ (hs.length : Int) ≤ k) : kvs hs [k] = [] := by
  have := kvs_no (hs := hs) (l := [k]) (j := 0) (k := k) rfl h
  simpa [kvs] using this
theorem kvs_one {hs : List At} {k : Int} {h : At} (h0 : 0 ≤ k) (hh : hs[k.toNat]? = some h) : kvs hs [k] = firsts (Tm.vss h.args) := by
  have := kvs_yes (hs := hs) (l := [k]) (j := 0) (k := k) rfl h0 hh
  simpa [kvs] using this
set_option maxRecDepth 100000 in
theorem enter_ok {bs : List Box} {b : Nat} {xs : List Int} {hs : List At} {k : Int} (hl : ∀ h ∈ hs, (Tm.vss h.args).length ≤ 100000) (hbb : boxesLt bs.length bs = true) (hb : bs[b]? = some (.mp (msOf (.bool true) xs))) : AM.Sem Tryz.prog 71 [.mpt b, slA At.av hs, .int .i64 k] bs fun r bs' => r = .tup [] ∧ bs' = bs.set b (.mp (msOf (.bool true) (xs ++ kvs hs [k]))) := by
  have hblt : b < bs.length := (List.getElem?_eq_some_iff.1 hb).1
  refine opS_guard_known_enter (by simp) ?_
  by_cases hk : 0 ≤ k ∧ k < hs.length
  · obtain ⟨h, hh⟩ : ∃ h, hs[k.toNat]? = some h := ⟨_, List.getElem?_eq_getElem (by omega)⟩
    rw [kvs_one hk.1 hh]
    conv => whnf
    repeat' ((first | (refine gF ?_; refine CallN.fn (atomVars_ok (x := h) (hl h (List.mem_of_getElem? hh))) ?_) | (refine gC ?_; (refine gD ?_; refine cJ ?_)) | (refine gL ?_; refine .map ?_) | (refine gI ?_; (refine gM ?_; refine iF ?_))) <;> conv => whnf)
    have hvl : (firsts (Tm.vss h.args)).length ≤ 100000 := by
      have := addVs_len (Tm.vss h.args) []
      simp only [List.length_nil] at this
      have := hl h (List.mem_of_getElem? hh)
      unfold firsts; omega
    generalize firsts (Tm.vss h.args) = vs at *
    refine LoopP.count (fb := false) vs.length (fun st_ j => ⟨[(0, .mpt b), (20, slA intA vs), (21, .int .i64 vs.length), (22, .int .i64 j)], bs.set b (.mp (msOf (.bool true) (xs ++ vs.take j))), bs.length⟩) (fun _ => True) trivial ?_ (fun j hj _ => ?_) (fun _ => ?_)
    · refine EndN.atS ?_ (by rw [List.take_zero, List.append_nil, set_same hb]) rfl
      conv => whnf
      repeat' ((first | (refine gV ?_; first | refine vE ?_ | refine vI ?_) | exact True.intro) <;> conv => whnf)
    · obtain ⟨y, hy⟩ : ∃ y, vs[j]? = some y := ⟨_, List.getElem?_eq_getElem hj⟩
      have hs : vs.take (j + 1) = vs.take j ++ [y] := by
        rw [List.take_succ_eq_append_getElem hj, (List.getElem?_eq_some_iff.1 hy).2]
      have hb3 : (bs.set b (.mp (msOf (.bool true) (xs ++ vs.take j))))[b]? = some (.mp (msOf (.bool true) (xs ++ vs.take j))) := by rw [List.getElem?_set_self hblt]
      conv => whnf
      repeat' ((first | (refine gC ?_; (refine gD ?_; refine cI ?_)) | (refine gW ?_; refine wI ?_) | (refine gN ?_; refine nS ?_) | (refine gI ?_; (refine gM ?_; refine iE ?_)) | (refine gMp ?_; refine mA ?_)) <;> conv => whnf)
      refine ⟨trivial, ?_⟩
      refine EndN.atS ?_ (by simp only [List.set_set, St.ev]; rw [hs, ← List.append_assoc, msOf_put]) rfl
      conv => whnf
      repeat' ((first | (refine gV ?_; first | refine vE ?_ | refine vI ?_) | exact True.intro) <;> conv => whnf)
    · rw [List.take_length]
      conv => whnf
      repeat' ((refine gC ?_; (refine gD ?_; refine cJ ?_)) <;> conv => whnf)
      exact RetP.nil ⟨rfl, rfl⟩
  · rw [kvs_one_no (by omega), List.append_nil, set_same hb]
    conv => whnf
    repeat' ((first | (refine gC ?_; first | refine cY ?_ | (refine gD ?_; first | refine cI ?_ | refine cJ ?_) | refine CondN.lt (fun hc => ?_) (fun hc => ?_)) | (refine gL ?_; refine .map ?_)) <;> conv => whnf)
    · exact RetP.nil ⟨rfl, rfl⟩
    · exact RetP.nil ⟨rfl, rfl⟩
end Go.CK

