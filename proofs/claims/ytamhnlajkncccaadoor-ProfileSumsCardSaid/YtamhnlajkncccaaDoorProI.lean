/-
  PROFILE, in the abstract machine: the functions' contracts, 6: texts of small numbers; the chapter's examples. By an AI agent.
-/
import Derived.Test.YtamhnlajkncccaaDoorProH
import Derived.Test.YtamhnlajkncccaaDoorTxtB
set_option linter.unusedSimpArgs false
set_option linter.unusedVariables false
namespace Go.CK
open Go.AM Go.Proofs
theorem FV.ct {c : Ct} {M : Hp} {v : Value} (h : FV M c.av v) (hf : c.fit) : ∃ cs, v = .agg cs.toArray ∧ RCt M cs c := by
  have hm : ∀ n ∈ nums c, IntOk n := fun n hn => by have := hf n hn; exact this
  unfold Ct.av at h
  obtain ⟨vs, rfl, hl, h1, hv⟩ := (RV.flat (σ := fun _ => 0) (n := 0) h).inv_agg
  match vs, hl with
  | [v0, v1, v2, v3], _ =>
    have g0 := hv 0 (by simp) v0 rfl
    have g1 := (hv 1 (by simp) v1 rfl).inv_int
    have g2 := (hv 2 (by simp) v2 rfl).inv_int
    have g3 := (hv 3 (by simp) v3 rfl).inv_int
    subst g1 g2 g3
    simp only [List.getElem_cons_zero] at g0
    obtain ⟨a, k, B, off, hsv⟩ := g0.sv (sz := 1) (fun y hy => by obtain ⟨n, _, rfl⟩ := List.mem_map.1 hy; rfl)
    have he := hsv.eq
    rw [List.length_map] at he
    subst he
    refine ⟨_, rfl, a, k, rfl, by have := hsv.cap; simpa using this, ⟨by have := hsv.len; simpa using this, fun i hi => ?_⟩, hm _ (by simp [nums]), hm _ (by simp [nums]), hm _ (by simp [nums])⟩
    have h0 : c.rules.map intA ≠ [] := fun e => by
      have := congrArg List.length e
      simp at this
      rw [this] at hi; simp at hi
    obtain ⟨e1, e2⟩ := hsv.el i (by simpa using hi)
    obtain ⟨u, e3, _, e4⟩ := e2 0 (by simp [AV.cells])
    simp only [List.getElem_map, AV.cells, List.getElem_cons_zero] at e4
    cases e4
    refine ⟨B, off, [.int .i64 c.rules[i]], hsv.at_ h0, rfl, fun j x hx => ?_, rfl, hm _ (by simp [nums])⟩
    cases j with
    | zero => simp only [List.getElem?_cons_zero, Option.some.injEq] at hx; subst hx; exact e3
    | succ j => simp at hx
theorem decDigits_len : ∀ (k u : Nat), u < 10 ^ (k + 1) → (Lib.decDigits u).length ≤ k + 1
  | 0, u, h => by rw [Lib.decDigits, dif_pos (by simpa using h)]; simp
  | k + 1, u, h => by
    rw [Lib.decDigits]
    split
    · simp
    · have := decDigits_len k (u / 10) (by rw [Nat.pow_succ] at h; omega)
      simp; omega
theorem itoa_len {n : Int} (h0 : -9223372036854775808 ≤ n) (h1 : n ≤ 9223372036854775807) : (Lib.itoa n).length ≤ 30 := by
  unfold Lib.itoa
  split
  · have := decDigits_len 19 n.natAbs (by omega)
    simp; omega
  · have := decDigits_len 19 n.toNat (by omega)
    omega
def smallC (c : Ct) : Prop := c.rules.length ≤ 90 ∧ ∀ n ∈ c.rules ++ [totalC c, c.tried, c.goals, c.steps], 0 ≤ n ∧ n < 100
theorem smallC.nums {c : Ct} (h : smallC c) : ∀ n ∈ textNums c, 0 ≤ n ∧ n < 100 := fun n hn => by
  simp only [textNums, List.append_assoc, List.mem_append, List.mem_map, List.mem_range] at hn
  rcases hn with ⟨j, hj, rfl⟩ | hn
  · have := h.1; omega
  · exact h.2 n (List.mem_append.2 (by simpa using hn))
theorem smallC.fit {c : Ct} (h : smallC c) : c.fit := fun n hn => by
  have := h.2 n (by
    simp only [Go.CK.nums, List.mem_append, List.mem_cons, List.not_mem_nil, or_false] at hn ⊢
    rcases hn with hn | hn | hn | hn <;> simp [hn])
  omega
theorem textC_len {c : Ct} (hl : c.rules.length ≤ 1000) (h : ∀ n ∈ textNums c, (Lib.itoa n).length ≤ 30) : (textC c).length ≤ 100000 := by
  have hnl : ∀ n ∈ c.rules, (Lib.itoa n).length ≤ 30 := fun n hn => h n (by simp [textNums, hn])
  have h1 := ruleLines_len 30 c.rules 0 hnl (fun q hq => by rw [Nat.zero_add]; exact h q (by simp only [textNums, List.append_assoc, List.mem_append, List.mem_map, List.mem_range]; exact .inl ⟨q, hq, rfl⟩))
  have h2 := Nat.mul_le_mul_right 68 hl
  have i0 := h (totalC c) (by simp [textNums])
  have i1 := h c.tried (by simp [textNums])
  have i2 := h c.goals (by simp [textNums])
  have i3 := h c.steps (by simp [textNums])
  simp only [textC, restLines, lineT, sApp, sTried, sGoals, sSteps, List.length_append, List.length_cons, List.length_nil]
  omega
theorem text_small {c : Ct} (h : smallC c) : Fun Tryd.prog 20 [c.av] (.str ⟨(textC c).toArray⟩) := by
  have hn := h.nums
  have hit : ∀ n ∈ textNums c, (Lib.itoa n).length ≤ 30 := fun n hm => itoa_len (by have := hn n hm; omega) (by have := hn n hm; omega)
  refine Fun.ofCalls ?_ rfl fun w args hl hv => ?_
  · have := textC_len (by have := h.1; omega) hit
    show (textC c).toArray.size ≤ lim
    simp [lim,glim]; omega
  · obtain ⟨v, rfl⟩ : ∃ v, args = [v] := by
      cases args with
      | nil => cases hl
      | cons v r => cases r with
        | nil => exact ⟨v, rfl⟩
        | cons _ _ => simp at hl
    obtain ⟨cs, rfl, hc⟩ := FV.ct (hv 0 (by simp) v rfl) h.fit
    exact text_b c (by have := h.1; omega) w cs hc fun n hm => ⟨hit n hm, fun w' _ => itoa_small (hn n hm).1 (hn n hm).2 w'⟩
/-! ### the chapter's examples -/
def exL : List Ev := [⟨2, 0, 0, 0, []⟩, ⟨4, 0, 0, 1, []⟩, ⟨7, 0, 0, 0, []⟩]
def exC : Ct := ⟨[0, 1], 0, 1, 3⟩
def exS : Ct := ⟨[0, 2], 0, 2, 6⟩
def exT : List UInt8 := [114, 117, 108, 101, 32, 49, 58, 32, 49, 10, 97, 112, 112, 108, 105, 99, 97, 116, 105, 111, 110, 115, 58, 32, 49, 10, 116, 114, 105, 101, 100, 58, 32, 48, 10, 103, 111, 97, 108, 115, 58, 32, 49, 10, 115, 116, 101, 112, 115, 58, 32, 51, 10]
theorem digit1 {u : Nat} (h : u < 10) : Lib.decDigits u = [UInt8.ofNat (48 + u)] := by rw [Lib.decDigits, dif_pos h]
theorem itoa1 {u : Nat} (h : u < 10) : Lib.itoa (u : Int) = [UInt8.ofNat (48 + u)] := by
  unfold Lib.itoa
  rw [if_neg (by omega)]
  exact digit1 h
theorem ex_text : textC exC = exT := by
  have h0 : Lib.itoa 0 = [48] := itoa1 (u := 0) (by decide)
  have h1 : Lib.itoa 1 = [49] := itoa1 (u := 1) (by decide)
  have h3 : Lib.itoa 3 = [51] := itoa1 (u := 3) (by decide)
  have ht : totalC exC = 1 := by decide
  have hr : ruleLines 0 [0, 1] = lineT (sRule ++ Lib.itoa 1) 1 := by simp [ruleLines]
  simp only [textC, restLines, ht]
  show ruleLines 0 [0, 1] ++ (lineT sApp 1 ++ (lineT sTried 0 ++ (lineT sGoals 1 ++ lineT sSteps 3))) = exT
  rw [hr]
  simp only [lineT, h0, h1, h3]
  decide
theorem great_ok {c : Ct} : Fun Tryd.prog 16 [c.av] (.bool (decide (200 < c.rules.length))) := by
  refine Fun.assume rfl fun hg0 => ?_
  have hg := Ct.good (hg0 c.av (by simp))
  refine Fun.of (op_constraintlaw37_great (by simp) ?_) rfl rfl
  conv => whnf
  conv => whnf
  repeat' ((first | refine cY ?_ | refine cN ?_ | refine .not ?_ | refine wI ?_ | refine .map ?_ | refine .nil ?_ | refine .one ?_ | refine .app ?_ | refine .set ?_ | refine .rep ?_ | refine .any ?_ | refine cI ?_ | refine cJ ?_ | refine cYa ?_ | refine cNa ?_ | refine cIa ?_ | refine cJa ?_ | refine cIr ?_ | refine cId ?_ | refine cJd ?_ | with_reducible refine CondN.and ?_ | with_reducible refine CondN.or ?_ | refine CondN.lt (fun hc => ?_) (fun hc => ?_) | refine CondN.le (fun hc => ?_) (fun hc => ?_) | refine CondN.dec (fun hc => ?_) (fun hc => ?_) | refine CondN.any (fun hc => ?_) (fun hc => ?_) | refine nS ?_ | refine iA ?_ | refine iB ?_ | refine iC fun x hx => ?_ | refine iD fun x hx => ?_ | refine iE ?_ | refine iF ?_ | refine iG ?_ | refine iH fun x hx => ?_ | refine iI fun x hx => ?_ | refine iJ ?_ | refine hB ?_ | refine aP ?_ | refine .last ?_ | refine .last2 ?_ | refine zN fun k hk => ?_ | refine aR fun k hk => ?_ | refine mA ?_ | refine eL ?_ | refine eS ?_ | refine eLb ?_ | refine eSb ?_ | refine mB ?_ | refine mBb ?_ | refine pE ?_ | refine pZ ?_ | refine pC ?_ | refine pN ?_ | refine pN2 ?_ | refine mS (fun hc => ?_) (fun hc => ?_) | refine RetP.nrm ?_) <;> conv => whnf)
  rw [decide_eq_decide.2 (show (200 : Int) < c.rules.length ↔ 200 < c.rules.length by omega)]
set_option maxRecDepth 100000 in
theorem live37_ok : Fun Tryd.prog 12 [] (.bool true) := by
  have hO := of_ok (rules := 2) (l := exL) (by decide)
  rw [show ofC 2 exL = exC by decide] at hO
  have hA := add_ok (a := exC) (b := exC) (by decide) (by decide) (fun x hx => by simp [nums, exC] at hx; omega) (fun x hx => by simp [nums, exC] at hx; omega)
  rw [addAV, show addC exC exC = (exS, 0) by decide] at hA
  have hR := refSame_ok (a := exC) (b := exC) (by decide) (by decide)
  have hT := total_ok (c := exS) (by decide)
  rw [show totalC exS = 2 by decide] at hT
  have hS := same_ok (a := exC) (b := exC) (by decide) (by decide)
  have hS2 := same_ok (a := exC) (b := exS) (by decide) (by decide)
  rw [show decide (nums exC = nums exS) = false by decide] at hS2
  have hX := text_small (c := exC) ⟨by decide, by decide⟩
  rw [ex_text] at hX
  simp only [decide_true] at hR hS
  simp only [slA, List.map_cons, List.map_nil, exL, exC, exS, exT, Ct.av, Ev.av, intA] at hO hA hR hT hS hS2 hX
  refine Fun.of (op_constraintlaw37_live (by simp) ?_) rfl rfl
  conv => whnf
  conv => whnf
  repeat' ((first | refine CallN.fn (hO) ?_ | refine CallP.fn (hO) ?_ | refine CallN.fn (hA) ?_ | refine CallP.fn (hA) ?_ | refine CallN.fn (hR) ?_ | refine CallP.fn (hR) ?_ | refine CallN.fn (hT) ?_ | refine CallP.fn (hT) ?_ | refine CallN.fn (hS) ?_ | refine CallP.fn (hS) ?_ | refine CallN.fn (hS2) ?_ | refine CallP.fn (hS2) ?_ | refine CallN.fn (hX) ?_ | refine CallP.fn (hX) ?_ | refine cY ?_ | refine cN ?_ | refine .not ?_ | refine wI ?_ | refine .map ?_ | refine .nil ?_ | refine .one ?_ | refine .app ?_ | refine .set ?_ | refine .rep ?_ | refine .any ?_ | refine cI ?_ | refine cJ ?_ | refine cYa ?_ | refine cNa ?_ | refine cIa ?_ | refine cJa ?_ | refine cIr ?_ | refine cId ?_ | refine cJd ?_ | with_reducible refine CondN.and ?_ | with_reducible refine CondN.or ?_ | refine CondN.lt (fun hc => ?_) (fun hc => ?_) | refine CondN.le (fun hc => ?_) (fun hc => ?_) | refine CondN.dec (fun hc => ?_) (fun hc => ?_) | refine CondN.any (fun hc => ?_) (fun hc => ?_) | refine nS ?_ | refine iA ?_ | refine iB ?_ | refine iC fun x hx => ?_ | refine iD fun x hx => ?_ | refine iE ?_ | refine iF ?_ | refine iG ?_ | refine iH fun x hx => ?_ | refine iI fun x hx => ?_ | refine iJ ?_ | refine hB ?_ | refine aP ?_ | refine .last ?_ | refine .last2 ?_ | refine zN fun k hk => ?_ | refine aR fun k hk => ?_ | refine mA ?_ | refine eL ?_ | refine eS ?_ | refine eLb ?_ | refine eSb ?_ | refine mB ?_ | refine mBb ?_ | refine pE ?_ | refine pZ ?_ | refine pC ?_ | refine pN ?_ | refine pN2 ?_ | refine mS (fun hc => ?_) (fun hc => ?_) | refine RetP.nrm ?_) <;> conv => whnf)
  exact congrArg AV.bool (decide_eq_true rfl)
end Go.CK
