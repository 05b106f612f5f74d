/-
  PROFILE, the plain law: counts, their sums and totals. No program is in sight. By an AI agent.
-/
import Derived.Test.YtamhnlajkncccaaDoorData
import Derived.Lib.ItoaNum
set_option linter.unusedSimpArgs false
set_option linter.unusedVariables false
namespace Go.CK
/-! ### the counts of events -/
def evApp (e : Ev) : Bool := decide (e.kind = 4) || decide (e.kind = 5)
def evRule (r : Int) (e : Ev) : Bool := evApp e && decide (e.rule = r)
def evGoal (e : Ev) : Bool := decide (e.kind = 1) || decide (e.kind = 2)
def ruleN (rules : Int) : Nat := (min (max rules 0) 40).toNat
def cntR (n : Nat) (l : List Ev) : List Int := (List.range n).map fun (r : Nat) => ((l.countP (evRule (r : Int)) : Nat) : Int)
def ofC (rules : Int) (l : List Ev) : Ct := ⟨cntR (ruleN rules) l, 0, (l.countP evGoal : Nat), l.length⟩
theorem cntR_len (n : Nat) (l : List Ev) : (cntR n l).length = n := by simp [cntR]
theorem cntR_get {n : Nat} {l : List Ev} {r : Nat} (h : r < n) : (cntR n l)[r]? = some ((l.countP (evRule r) : Nat) : Int) := by
  simp [cntR, List.getElem?_map, List.getElem?_range h]
theorem cntR_hit {n : Nat} {l : List Ev} {e : Ev} (ha : evApp e = true) (h0 : 0 ≤ e.rule) (h1 : e.rule < n) : cntR n (l ++ [e]) = (cntR n l).set e.rule.toNat (((l.countP (evRule e.rule) : Nat) : Int) + 1) := by
  refine List.ext_getElem? fun r => ?_
  rcases Nat.lt_or_ge r n with hr | hr
  · rw [cntR_get hr, List.getElem?_set]
    by_cases he : e.rule.toNat = r
    · rw [if_pos he, if_pos (by rw [cntR_len]; omega)]
      have : e.rule = (r : Int) := by omega
      simp [List.countP_append, evRule, ha, this]
    · rw [if_neg he, cntR_get hr]
      have : ¬ e.rule = (r : Int) := by omega
      simp [List.countP_append, evRule, this]
  · rw [List.getElem?_eq_none (by rw [cntR_len]; exact hr), List.getElem?_eq_none (by rw [List.length_set, cntR_len]; exact hr)]
theorem cntR_no {n : Nat} {l : List Ev} {e : Ev} (h : ¬ (evApp e = true ∧ 0 ≤ e.rule ∧ e.rule < n)) : cntR n (l ++ [e]) = cntR n l := by
  refine List.ext_getElem? fun r => ?_
  rcases Nat.lt_or_ge r n with hr | hr
  · rw [cntR_get hr, cntR_get hr]
    have : evRule r e = false := by
      cases hq : evRule r e with
      | false => rfl
      | true =>
        simp only [evRule, Bool.and_eq_true, decide_eq_true_eq] at hq
        exact absurd ⟨hq.1, by omega, by omega⟩ h
    simp [List.countP_append, this]
  · rw [List.getElem?_eq_none (by rw [cntR_len]; exact hr), List.getElem?_eq_none (by rw [cntR_len]; exact hr)]
theorem cntR_app (n : Nat) (a b : List Ev) : cntR n (a ++ b) = List.zipWith (· + ·) (cntR n a) (cntR n b) := by
  simp [cntR, List.zipWith_map, List.countP_append, List.zipWith_self]
/-! ### totals -/
def maxI : Int := 9223372036854775807
def posSum : List Int → Int
  | [] => 0
  | x :: r => max x 0 + posSum r
theorem posSum_nonneg : ∀ l, 0 ≤ posSum l
  | [] => Int.le_refl _
  | x :: r => by have := posSum_nonneg r; simp only [posSum]; omega
theorem posSum_app : ∀ l m, posSum (l ++ m) = posSum l + posSum m
  | [], m => by simp [posSum]
  | x :: l, m => by simp only [List.cons_append, posSum, posSum_app l m]; omega
def totF : List Int → Int → Int
  | [], n => n
  | x :: r, n => if maxI - n < x then maxI else totF r (n + max x 0)
theorem totF_eq : ∀ (l : List Int) (n : Int), 0 ≤ n → n ≤ maxI → totF l n = min maxI (n + posSum l)
  | [], n, h0, h1 => by simp only [totF, posSum]; omega
  | x :: r, n, h0, h1 => by
    have hp := posSum_nonneg r
    simp only [totF, posSum]
    split
    · omega
    · rw [totF_eq r _ (by omega) (by omega)]; omega
def totalC (c : Ct) : Int := min maxI (posSum c.rules)
theorem totalC_eq (c : Ct) : totF c.rules 0 = totalC c := by
  rw [totF_eq _ _ (by decide) (by decide)]; simp [totalC]
theorem totalC_b (c : Ct) : 0 ≤ totalC c ∧ totalC c ≤ maxI := by
  have := posSum_nonneg c.rules
  have : (0 : Int) ≤ maxI := by decide
  unfold totalC; omega
theorem posSum_zip : ∀ {a b : List Int}, a.length = b.length → (∀ x ∈ a, 0 ≤ x) → (∀ x ∈ b, 0 ≤ x) → posSum (List.zipWith (· + ·) a b) = posSum a + posSum b
  | [], [], _, _, _ => rfl
  | x :: a, y :: b, h, ha, hb => by
    have ih := posSum_zip (a := a) (b := b) (by simpa using h) (fun z hz => ha z (by simp [hz])) (fun z hz => hb z (by simp [hz]))
    have h1 := ha x (by simp)
    have h2 := hb y (by simp)
    simp only [List.zipWith_cons_cons, posSum, ih]; omega
theorem cntR_nil (n : Nat) : posSum (cntR n []) = 0 := by
  have : ∀ x ∈ cntR n [], x = 0 := fun x hx => by
    simp only [cntR, List.mem_map, List.countP_nil] at hx
    obtain ⟨_, _, rfl⟩ := hx; rfl
  generalize cntR n [] = l at this
  induction l with
  | nil => rfl
  | cons x r ih =>
    rw [posSum, ih fun y hy => this y (by simp [hy]), this x (by simp)]; rfl
theorem posSum_set : ∀ {l : List Int} {i : Nat} {v : Int}, l[i]? = some v → 0 ≤ v → posSum (l.set i (v + 1)) = posSum l + 1
  | x :: r, 0, v, h, h0 => by
    simp only [List.getElem?_cons_zero, Option.some.injEq] at h
    subst h
    simp only [List.set_cons_zero, posSum]; omega
  | x :: r, i + 1, v, h, h0 => by
    simp only [List.getElem?_cons_succ] at h
    simp only [List.set_cons_succ, posSum, posSum_set h h0]; omega
theorem applied_le (n : Nat) (l : List Ev) : posSum (cntR n l) ≤ (l.countP evApp : Nat) := by
  obtain ⟨k, hk⟩ : ∃ k, k = l.length := ⟨_, rfl⟩
  induction k generalizing l with
  | zero =>
    obtain rfl := List.eq_nil_of_length_eq_zero hk.symm
    rw [cntR_nil]; simp
  | succ k ih =>
    obtain ⟨l, e, rfl⟩ : ∃ m e, l = m ++ [e] := ⟨l.dropLast, l.getLast (by intro h; subst h; cases hk), (List.dropLast_concat_getLast _).symm⟩
    have ih := ih l (by simpa using hk)
    by_cases h : evApp e = true ∧ 0 ≤ e.rule ∧ e.rule < n
    · rw [cntR_hit h.1 h.2.1 h.2.2]
      have hg := cntR_get (n := n) (l := l) (r := e.rule.toNat) (by omega)
      rw [show ((e.rule.toNat : Nat) : Int) = e.rule by omega] at hg
      rw [posSum_set hg (by omega)]
      simp [List.countP_append, h.1]; omega
    · rw [cntR_no h]
      simp only [List.countP_append]; omega
theorem both_le (l : List Ev) : l.countP evApp + l.countP evGoal ≤ l.length := by
  induction l with
  | nil => simp
  | cons e l ih =>
    simp only [List.countP_cons, List.length_cons]
    have : ¬ (evApp e = true ∧ evGoal e = true) := fun ⟨h1, h2⟩ => by
      simp only [evApp, evGoal, Bool.or_eq_true, decide_eq_true_eq] at h1 h2; omega
    split <;> split <;> first | omega | (exfalso; exact this ⟨by assumption, by assumption⟩)
theorem ofC_le (rules : Int) (l : List Ev) : totalC (ofC rules l) + (ofC rules l).goals ≤ (ofC rules l).steps := by
  have h1 := applied_le (ruleN rules) l
  have h2 := both_le l
  simp only [totalC, ofC]; omega
end Go.CK
