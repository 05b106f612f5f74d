/-
  PROFILE, the plain law, 2: sums of counts. No program is in sight. By an AI agent.
-/
import Derived.Test.YtamhnlajkncccaaDoorProA
set_option linter.unusedSimpArgs false
set_option linter.unusedVariables false
namespace Go.CK
/-! ### all numbers of counts -/
def nums (c : Ct) : List Int := c.rules ++ [c.tried, c.goals, c.steps]
theorem nums_len (c : Ct) : (nums c).length = c.rules.length + 3 := by simp [nums]
def okC (c : Ct) : Bool := (nums c).all fun x => decide (0 ≤ x)
theorem okC_iff {c : Ct} : okC c = true ↔ ∀ x ∈ nums c, 0 ≤ x := by simp [okC, List.all_eq_true]
def zeroC : Ct := ⟨[], 0, 0, 0⟩
def fits (x y : List Int) : Bool := (List.zipWith (fun a b => decide (a ≤ maxI - b)) x y).all id
theorem fits_comm : ∀ x y : List Int, fits x y = fits y x
  | [], y => by cases y <;> rfl
  | x :: a, [] => rfl
  | x :: a, y :: b => by
    have ih := fits_comm a b
    simp only [fits, List.zipWith_cons_cons, List.all_cons, id_eq] at ih ⊢
    rw [ih, decide_eq_decide.2 (show x ≤ maxI - y ↔ y ≤ maxI - x by omega)]
theorem fits_cons {x y : Int} {a b : List Int} : fits (x :: a) (y :: b) = (decide (x ≤ maxI - y) && fits a b) := by simp [fits]
/-- no pair before place j is too great -/
def fitsTo (x y : List Int) (j : Nat) : Prop := ∀ i a b, i < j → x[i]? = some a → y[i]? = some b → a ≤ maxI - b
theorem fits_iff : ∀ {x y : List Int}, x.length = y.length → (fits x y = true ↔ fitsTo x y x.length)
  | [], [], _ => by simp [fits, fitsTo]
  | x :: a, y :: b, h => by
    have ih := fits_iff (x := a) (y := b) (by simpa using h)
    rw [fits_cons, Bool.and_eq_true, decide_eq_true_eq, ih]
    constructor
    · rintro ⟨h1, h2⟩ i u v hi hu hv
      cases i with
      | zero => simp only [List.getElem?_cons_zero, Option.some.injEq] at hu hv; subst hu hv; exact h1
      | succ i =>
        simp only [List.getElem?_cons_succ] at hu hv
        exact h2 i u v (by simpa using hi) hu hv
    · intro h2
      refine ⟨h2 0 x y (by simp) rfl rfl, fun i u v hi hu hv => h2 (i + 1) u v (by simpa using hi) (by simpa using hu) (by simpa using hv)⟩
def sumL (x y : List Int) : List Int := List.zipWith (· + ·) x y
theorem sumL_comm (x y : List Int) : sumL x y = sumL y x := by
  unfold sumL
  rw [List.zipWith_comm]
  congr 1
  funext a b; omega
theorem sumL_len {x y : List Int} (h : x.length = y.length) : (sumL x y).length = x.length := by simp [sumL, h]
theorem sumL_app {a b c d : List Int} (h : a.length = c.length) : sumL (a ++ b) (c ++ d) = sumL a c ++ sumL b d := List.zipWith_append h
/-- the sum of two costs, and the error's number: 2 an argument, 5 too great -/
def addC (a b : Ct) : Ct × Int :=
  if okC a = true ∧ okC b = true ∧ a.rules.length = b.rules.length then
    if fits (nums a) (nums b) = true then (⟨sumL a.rules b.rules, a.tried + b.tried, a.goals + b.goals, a.steps + b.steps⟩, 0) else (zeroC, 5)
  else (zeroC, 2)
theorem addC_comm (a b : Ct) : addC a b = addC b a := by
  unfold addC
  rw [fits_comm, sumL_comm, Int.add_comm a.tried, Int.add_comm a.goals, Int.add_comm a.steps]
  by_cases h : okC a = true ∧ okC b = true ∧ a.rules.length = b.rules.length
  · rw [if_pos h, if_pos (show okC b = true ∧ okC a = true ∧ b.rules.length = a.rules.length from ⟨h.2.1, h.1, h.2.2.symm⟩)]
  · rw [if_neg h, if_neg fun h2 => h ⟨h2.2.1, h2.1, h2.2.2.symm⟩]
theorem addC_nums {a b : Ct} (h : (addC a b).2 = 0) : nums (addC a b).1 = sumL (nums a) (nums b) ∧ (okC a = true ∧ okC b = true ∧ a.rules.length = b.rules.length) ∧ fits (nums a) (nums b) = true := by
  unfold addC at h ⊢
  split at h
  · rename_i h1
    split at h
    · rename_i h2
      rw [if_pos h1, if_pos h2]
      refine ⟨?_, h1, h2⟩
      simp only [nums, sumL_app h1.2.2]
      rfl
    · cases h
  · cases h
theorem addC_bad {a b : Ct} (h : (addC a b).2 ≠ 0) : (addC a b).1 = zeroC := by
  unfold addC at h ⊢
  split
  · split
    · rename_i h1 h2
      rw [if_pos h1, if_pos h2] at h; exact absurd rfl h
    · rfl
  · rfl
/-- the total of a sum -/
theorem addC_total {a b : Ct} (h : (addC a b).2 = 0) (hp : totalC a ≤ 4611686018427387904) (hq : totalC b ≤ 4611686018427387903) : totalC (addC a b).1 = totalC a + totalC b := by
  obtain ⟨_, ⟨h1, h2, h3⟩, h4⟩ := addC_nums h
  have hs : (addC a b).1.rules = sumL a.rules b.rules := by
    unfold addC
    rw [if_pos ⟨h1, h2, h3⟩, if_pos h4]
  have hz := posSum_zip (a := a.rules) (b := b.rules) h3 (fun x hx => okC_iff.1 h1 x (List.mem_append_left _ hx)) (fun x hx => okC_iff.1 h2 x (List.mem_append_left _ hx))
  have hm : maxI = 9223372036854775807 := rfl
  have e : totalC (addC a b).1 = min maxI (posSum a.rules + posSum b.rules) := by rw [totalC, hs, sumL, hz]
  rw [e]
  have ha : totalC a = posSum a.rules := by unfold totalC at hp ⊢; omega
  have hb : totalC b = posSum b.rules := by unfold totalC at hq ⊢; omega
  rw [ha] at hp ⊢
  rw [hb] at hq ⊢
  omega
/-- zeros change nothing -/
theorem sumL_zeros : ∀ (l : List Int), sumL l (List.replicate l.length 0) = l
  | [] => rfl
  | x :: r => by
    have ih := sumL_zeros r
    simp only [sumL, List.length_cons, List.replicate_succ, List.zipWith_cons_cons] at ih ⊢
    rw [ih, Int.add_zero]
def zerosC (n : Nat) : Ct := ⟨List.replicate n 0, 0, 0, 0⟩
theorem nums_zeros (n : Nat) : nums (zerosC n) = List.replicate (n + 3) 0 := by
  simp only [nums, zerosC]
  rw [show [(0 : Int), 0, 0] = List.replicate 3 0 from rfl, List.replicate_append_replicate]
theorem fits_zeros : ∀ (l : List Int), (∀ x ∈ l, x ≤ maxI) → fits l (List.replicate l.length 0) = true
  | [], _ => rfl
  | x :: r, h => by
    rw [List.length_cons, List.replicate_succ, fits_cons, fits_zeros r fun y hy => h y (by simp [hy])]
    have := h x (by simp)
    simp only [Bool.and_true, decide_eq_true_eq]; omega
theorem addC_zeros {a : Ct} (hm : ∀ x ∈ nums a, x ≤ maxI) : ((addC a (zerosC a.rules.length)).2 = 0 ↔ okC a = true) ∧ ((addC a (zerosC a.rules.length)).2 = 0 → nums (addC a (zerosC a.rules.length)).1 = nums a) := by
  have hz : okC (zerosC a.rules.length) = true := okC_iff.2 fun x hx => by
    rw [nums_zeros] at hx
    rw [(List.mem_replicate.1 hx).2]; exact Int.le_refl _
  have hf : fits (nums a) (nums (zerosC a.rules.length)) = true := by
    rw [nums_zeros, ← nums_len]; exact fits_zeros _ hm
  refine ⟨⟨fun h => (addC_nums h).2.1.1, fun h => ?_⟩, fun h => ?_⟩
  · unfold addC
    rw [if_pos ⟨h, hz, by simp [zerosC]⟩, if_pos hf]
  · rw [(addC_nums h).1, nums_zeros, ← nums_len, sumL_zeros]
/-- counts of two lists -/
theorem ofC_ok (rules : Int) (l : List Ev) : okC (ofC rules l) = true := okC_iff.2 fun x hx => by
  simp only [nums, ofC, List.mem_append, cntR, List.mem_map, List.mem_cons, List.not_mem_nil, or_false] at hx
  rcases hx with ⟨r, _, rfl⟩ | rfl | rfl | rfl <;> omega
theorem ofC_le2 (rules : Int) (l : List Ev) : ∀ x ∈ nums (ofC rules l), x ≤ l.length := fun x hx => by
  simp only [nums, ofC, List.mem_append, cntR, List.mem_map, List.mem_cons, List.not_mem_nil, or_false] at hx
  rcases hx with ⟨r, _, rfl⟩ | rfl | rfl | rfl
  · have := List.countP_le_length (p := evRule (r : Int)) (l := l); omega
  · omega
  · have := List.countP_le_length (p := evGoal) (l := l); omega
  · omega
theorem fits_small : ∀ {x y : List Int} {n : Int}, (∀ a ∈ x, a ≤ n) → (∀ b ∈ y, b ≤ n) → n + n ≤ maxI → fits x y = true
  | [], y, n, _, _, _ => by cases y <;> rfl
  | x :: a, [], n, _, _, _ => rfl
  | x :: a, y :: b, n, h1, h2, h3 => by
    rw [fits_cons, fits_small (fun z hz => h1 z (by simp [hz])) (fun z hz => h2 z (by simp [hz])) h3]
    have := h1 x (by simp)
    have := h2 y (by simp)
    simp only [Bool.and_true, decide_eq_true_eq]; omega
theorem ofC_split (rules : Int) (a b : List Ev) (ha : a.length ≤ 1000) (hb : b.length ≤ 1000) : addC (ofC rules a) (ofC rules b) = (ofC rules (a ++ b), 0) := by
  have hf : fits (nums (ofC rules a)) (nums (ofC rules b)) = true := fits_small (n := 1000) (fun x hx => by have := ofC_le2 rules a x hx; omega) (fun x hx => by have := ofC_le2 rules b x hx; omega) (by decide)
  unfold addC
  rw [if_pos ⟨ofC_ok _ _, ofC_ok _ _, by simp [ofC, cntR_len]⟩, if_pos hf]
  simp only [ofC, sumL, ← cntR_app, List.countP_append, List.length_append]
  congr 1
/-- the same numbers -/
theorem nums_inj {a b : Ct} (h : nums a = nums b) : a = b := by
  have hl := congrArg List.length h
  rw [nums_len, nums_len] at hl
  obtain ⟨h1, h2⟩ := List.append_inj h (by omega)
  simp only [List.cons.injEq, and_true] at h2
  obtain ⟨h2, h3, h4⟩ := h2
  cases a; cases b
  simp only at h1 h2 h3 h4
  subst h1 h2 h3 h4; rfl
end Go.CK
