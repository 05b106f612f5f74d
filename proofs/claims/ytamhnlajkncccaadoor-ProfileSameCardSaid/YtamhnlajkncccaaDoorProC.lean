/-
  PROFILE, the plain law, 3: the text of counts; two different ones have different texts. No program is in sight. By an AI agent.
-/
import Derived.Test.YtamhnlajkncccaaDoorProB
set_option linter.unusedSimpArgs false
set_option linter.unusedVariables false
namespace Go.CK
open Go.Lib
/-! ### numerals -/
def isDigit (b : UInt8) : Bool := decide (48 ≤ b.toNat) && decide (b.toNat ≤ 57)
theorem u8_of {n : Nat} (h : n < 256) : (UInt8.ofNat n).toNat = n := by rw [UInt8.toNat_ofNat']; exact Nat.mod_eq_of_lt h
theorem decDigits_digit : ∀ (k u : Nat), u ≤ k → ∀ b ∈ decDigits u, isDigit b = true
  | k, u, hk, b, hb => by
    rw [decDigits] at hb
    split at hb
    · rename_i h
      simp only [List.mem_singleton] at hb
      subst hb
      simp only [isDigit, u8_of (show 48 + u < 256 by omega), Bool.and_eq_true, decide_eq_true_eq]; omega
    · rename_i h
      rcases List.mem_append.1 hb with h1 | h1
      · match k, hk with
        | 0, hk => omega
        | k + 1, hk => exact decDigits_digit k (u / 10) (by omega) b h1
      · simp only [List.mem_singleton] at h1
        subst h1
        simp only [isDigit, u8_of (show 48 + u % 10 < 256 by omega), Bool.and_eq_true, decide_eq_true_eq]; omega
def decVal (l : List UInt8) : Nat := l.foldl (fun n b => 10 * n + (b.toNat - 48)) 0
theorem decVal_snoc (l : List UInt8) (b : UInt8) : decVal (l ++ [b]) = 10 * decVal l + (b.toNat - 48) := by simp [decVal]
theorem decVal_digits : ∀ (k u : Nat), u ≤ k → decVal (decDigits u) = u
  | k, u, hk => by
    rw [decDigits]
    split
    · rename_i h
      simp only [decVal, List.foldl_cons, List.foldl_nil, u8_of (show 48 + u < 256 by omega)]; omega
    · rename_i h
      match k, hk with
      | 0, hk => omega
      | k + 1, hk =>
        rw [decVal_snoc, decVal_digits k (u / 10) (by omega), u8_of (by omega)]; omega
theorem itoa_digit {n : Int} (h : 0 ≤ n) : ∀ b ∈ itoa n, isDigit b = true := fun b hb => by
  unfold itoa at hb
  rw [if_neg (by omega)] at hb
  exact decDigits_digit _ _ (Nat.le_refl _) b hb
theorem itoa_inj {n m : Int} (h0 : 0 ≤ n) (h1 : 0 ≤ m) (h : itoa n = itoa m) : n = m := by
  unfold itoa at h
  rw [if_neg (by omega), if_neg (by omega)] at h
  have := congrArg decVal h
  rw [decVal_digits _ _ (Nat.le_refl _), decVal_digits _ _ (Nat.le_refl _)] at this
  omega
/-! ### what stands ahead of a mark -/
theorem split_at {c : UInt8} : ∀ {x y r s : List UInt8}, (∀ b ∈ x, b ≠ c) → (∀ b ∈ y, b ≠ c) → x ++ c :: r = y ++ c :: s → x = y ∧ r = s
  | [], [], r, s, _, _, h => by simp only [List.nil_append, List.cons.injEq, true_and] at h; exact ⟨rfl, h⟩
  | [], b :: y, r, s, _, hy, h => by
    simp only [List.nil_append, List.cons_append, List.cons.injEq] at h
    exact absurd h.1.symm (hy b (by simp))
  | a :: x, [], r, s, hx, _, h => by
    simp only [List.nil_append, List.cons_append, List.cons.injEq] at h
    exact absurd h.1 (hx a (by simp))
  | a :: x, b :: y, r, s, hx, hy, h => by
    simp only [List.cons_append, List.cons.injEq] at h
    obtain ⟨h1, h2⟩ := split_at (fun z hz => hx z (by simp [hz])) (fun z hz => hy z (by simp [hz])) h.2
    exact ⟨by rw [h.1, h1], h2⟩
theorem digit_ne {b c : UInt8} (h : isDigit b = true) (hc : isDigit c = false) : b ≠ c := fun e => by subst e; rw [h] at hc; cases hc
/-! ### lines -/
def sRule : List UInt8 := [114, 117, 108, 101, 32]
def sApp : List UInt8 := [97, 112, 112, 108, 105, 99, 97, 116, 105, 111, 110, 115]
def sTried : List UInt8 := [116, 114, 105, 101, 100]
def sGoals : List UInt8 := [103, 111, 97, 108, 115]
def sSteps : List UInt8 := [115, 116, 101, 112, 115]
def lineT (what : List UInt8) (n : Int) : List UInt8 := what ++ [58, 32] ++ itoa n ++ [10]
def ruleLines : Nat → List Int → List UInt8
  | _, [] => []
  | i, n :: r => (if n = 0 then [] else lineT (sRule ++ itoa i) n) ++ ruleLines (i + 1) r
def restLines (c : Ct) : List UInt8 := lineT sApp (totalC c) ++ (lineT sTried c.tried ++ (lineT sGoals c.goals ++ lineT sSteps c.steps))
def textC (c : Ct) : List UInt8 := ruleLines 0 c.rules ++ restLines c
theorem line_split {w v : List UInt8} {n m : Int} {r s : List UInt8} (hn : 0 ≤ n) (hm : 0 ≤ m) (hw : ∀ b ∈ w, b ≠ 58) (hv : ∀ b ∈ v, b ≠ 58) (h : lineT w n ++ r = lineT v m ++ s) : w = v ∧ n = m ∧ r = s := by
  simp only [lineT, List.append_assoc, List.cons_append, List.nil_append] at h
  obtain ⟨h1, h2⟩ := split_at hw hv h
  simp only [List.cons.injEq, true_and] at h2
  obtain ⟨h3, h4⟩ := split_at (c := 10) (fun b hb => digit_ne (itoa_digit hn b hb) (by decide)) (fun b hb => digit_ne (itoa_digit hm b hb) (by decide)) h2
  exact ⟨h1, itoa_inj hn hm h3, h4⟩
theorem rule_ne (i : Nat) : ∀ b ∈ sRule ++ itoa i, b ≠ 58 := fun b hb => by
  rcases List.mem_append.1 hb with h | h
  · exact (show ∀ b ∈ sRule, b ≠ 58 by decide) b h
  · exact digit_ne (itoa_digit (by omega) b h) (by decide)
theorem rest_inj {a b : Ct} (ha : ∀ x ∈ nums a, 0 ≤ x) (hb : ∀ x ∈ nums b, 0 ≤ x) (h : restLines a = restLines b) : a.tried = b.tried ∧ a.goals = b.goals ∧ a.steps = b.steps := by
  have p1 := ha a.tried (by simp [nums])
  have p2 := ha a.goals (by simp [nums])
  have p3 := ha a.steps (by simp [nums])
  have q1 := hb b.tried (by simp [nums])
  have q2 := hb b.goals (by simp [nums])
  have q3 := hb b.steps (by simp [nums])
  unfold restLines at h
  obtain ⟨_, _, h⟩ := line_split (w := sApp) (v := sApp) (totalC_b a).1 (totalC_b b).1 (by decide) (by decide) h
  obtain ⟨_, h1, h⟩ := line_split (w := sTried) (v := sTried) p1 q1 (by decide) (by decide) h
  obtain ⟨_, h2, h⟩ := line_split (w := sGoals) (v := sGoals) p2 q2 (by decide) (by decide) h
  obtain ⟨_, h3, _⟩ := line_split (w := sSteps) (v := sSteps) (r := []) (s := []) p3 q3 (by decide) (by decide) (by rw [List.append_nil, List.append_nil]; exact h)
  exact ⟨h1, h2, h3⟩
theorem rest_head (c : Ct) : ∃ r, restLines c = 97 :: r := ⟨_, rfl⟩
theorem rule_head (w : List UInt8) (n : Int) (r : List UInt8) : ∃ s, lineT (sRule ++ w) n ++ r = 114 :: s := ⟨_, rfl⟩
/-- the lines begin with the first number that is not zero -/
theorem ruleLines_split {c : Ct} : ∀ (l : List Int) (i : Nat) (t : List UInt8), ruleLines i l ++ restLines c = t → (ruleLines i l = [] ∧ ∃ r, t = 97 :: r) ∨ ∃ r, t = 114 :: r
  | [], i, t, h => by
    obtain ⟨r, hr⟩ := rest_head c
    exact .inl ⟨rfl, r, by rw [← h, ← hr]; rfl⟩
  | n :: l, i, t, h => by
    by_cases hn : n = 0
    · simp only [ruleLines, if_pos hn, List.nil_append] at h ⊢
      exact ruleLines_split l (i + 1) t h
    · simp only [ruleLines, if_neg hn, List.append_assoc] at h
      obtain ⟨s, hs⟩ := rule_head (itoa i) n (ruleLines (i + 1) l ++ restLines c)
      exact .inr ⟨s, by rw [← h, hs]⟩
theorem ruleLines_idx {c : Ct} : ∀ (l : List Int) (i j : Nat) (n : Int) (s : List UInt8), (∀ x ∈ l, 0 ≤ x) → 0 ≤ n → j < i → ruleLines i l ++ restLines c ≠ lineT (sRule ++ itoa j) n ++ s
  | [], i, j, n, s, _, _, _, h => by
    obtain ⟨r, hr⟩ := rest_head c
    obtain ⟨u, hu⟩ := rule_head (itoa j) n s
    rw [hu] at h
    have h : restLines c = 114 :: u := h
    rw [hr] at h
    simp at h
  | m :: l, i, j, n, s, hl, hn, hj, h => by
    by_cases hm : m = 0
    · simp only [ruleLines, if_pos hm, List.nil_append] at h
      exact ruleLines_idx l (i + 1) j n s (fun x hx => hl x (by simp [hx])) hn (by omega) h
    · simp only [ruleLines, if_neg hm, List.append_assoc] at h
      obtain ⟨h1, _, _⟩ := line_split (hl m (by simp)) hn (rule_ne i) (rule_ne j) h
      have := itoa_inj (by omega) (by omega) (List.append_cancel_left h1)
      omega
theorem rules_inj {a b : Ct} (ha : ∀ x ∈ nums a, 0 ≤ x) (hb : ∀ x ∈ nums b, 0 ≤ x) : ∀ (l m : List Int) (i : Nat), l.length = m.length → (∀ x ∈ l, 0 ≤ x) → (∀ x ∈ m, 0 ≤ x) → ruleLines i l ++ restLines a = ruleLines i m ++ restLines b → l = m ∧ restLines a = restLines b
  | [], [], i, _, _, _, h => ⟨rfl, h⟩
  | x :: l, y :: m, i, hlen, hl, hm, h => by
    have hlen : l.length = m.length := by simpa using hlen
    have hl2 : ∀ z ∈ l, 0 ≤ z := fun z hz => hl z (by simp [hz])
    have hm2 : ∀ z ∈ m, 0 ≤ z := fun z hz => hm z (by simp [hz])
    by_cases hx : x = 0 <;> by_cases hy : y = 0
    · simp only [ruleLines, if_pos hx, if_pos hy, List.nil_append] at h
      obtain ⟨h1, h2⟩ := rules_inj ha hb l m (i + 1) hlen hl2 hm2 h
      exact ⟨by rw [h1, hx, hy], h2⟩
    · simp only [ruleLines, if_pos hx, if_neg hy, List.nil_append, List.append_assoc] at h
      exact absurd h (ruleLines_idx l (i + 1) i y _ hl2 (hm y (by simp)) (by omega))
    · simp only [ruleLines, if_neg hx, if_pos hy, List.nil_append, List.append_assoc] at h
      exact absurd h.symm (ruleLines_idx m (i + 1) i x _ hm2 (hl x (by simp)) (by omega))
    · simp only [ruleLines, if_neg hx, if_neg hy, List.append_assoc] at h
      obtain ⟨_, h1, h2⟩ := line_split (hl x (by simp)) (hm y (by simp)) (rule_ne i) (rule_ne i) h
      obtain ⟨h3, h4⟩ := rules_inj ha hb l m (i + 1) hlen hl2 hm2 h2
      exact ⟨by rw [h1, h3], h4⟩
/-- different counts have different texts -/
theorem textC_inj {a b : Ct} (hlen : a.rules.length = b.rules.length) (ha : okC a = true) (hb : okC b = true) : textC a = textC b ↔ nums a = nums b := by
  have ha := okC_iff.1 ha
  have hb := okC_iff.1 hb
  refine ⟨fun h => ?_, fun h => by rw [nums_inj h]⟩
  obtain ⟨h1, h2⟩ := rules_inj ha hb a.rules b.rules 0 hlen (fun x hx => ha x (List.mem_append_left _ hx)) (fun x hx => hb x (List.mem_append_left _ hx)) h
  obtain ⟨h3, h4, h5⟩ := rest_inj ha hb h2
  simp only [nums, h1, h3, h4, h5]
end Go.CK
