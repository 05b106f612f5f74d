/-
  PLAIN: the values of arithmetic expressions. No function of the program is named here. By an AI agent.
-/
import Derived.Test.YtllcnpfdklbbbaaTerm
namespace Go.CK

def cAdd : ByteArray := ⟨#[43]⟩
def cSub : ByteArray := ⟨#[45]⟩
def cMul : ByteArray := ⟨#[42]⟩
def cDiv : ByteArray := ⟨#[47]⟩
def cMod : ByteArray := ⟨#[37]⟩

def isOp (s : ByteArray) : Bool := decide (s = cAdd ∨ s = cSub ∨ s = cMul ∨ s = cDiv ∨ s = cMod)
def inR (n : Int) : Bool := decide (-2147483648 ≤ n ∧ n ≤ 2147483648)

/-- a quotient that is rounded towards minus infinity, as the program reckons it -/
def quo (a b : Int) : Int := if a.tmod b ≠ 0 ∧ ((a < 0) ≠ (b < 0)) then a.tdiv b - 1 else a.tdiv b
/-- the same, as the reference reckons it -/
def flr (a b : Int) : Int := if b < 0 then (if 0 ≤ -a then (-a).tdiv (-b) else -((-b - 1 - -a).tdiv (-b))) else (if 0 ≤ a then a.tdiv b else -((b - 1 - a).tdiv b))

theorem quo_fdiv (a b : Int) (hb : b ≠ 0) : quo a b = a.fdiv b := by
  unfold quo
  have hdvd : (b ∣ a) ↔ a.tmod b = 0 := ⟨fun h => Int.tmod_eq_zero_of_dvd h, fun h => Int.dvd_of_tmod_eq_zero h⟩
  rw [Int.fdiv_eq_tdiv]
  by_cases h0 : a.tmod b = 0
  · simp [h0, hdvd]
  · rcases Int.lt_or_gt_of_ne hb with hb' | hb'
    · have e1 : b.sign = -1 := Int.sign_eq_neg_one_of_neg hb'
      by_cases ha : a < 0
      · simp [h0, hdvd, ha, hb', e1, show ¬ 0 ≤ a by omega, show ¬ 0 ≤ b by omega]
      · simp [h0, hdvd, ha, hb', show 0 ≤ a by omega, show ¬ 0 ≤ b by omega]
    · have e1 : b.sign = 1 := Int.sign_eq_one_of_pos hb'
      by_cases ha : a < 0
      · simp [h0, hdvd, ha, e1, show ¬ b < 0 by omega, show ¬ 0 ≤ a by omega, show 0 ≤ b by omega]
      · simp [h0, hdvd, ha, show ¬ b < 0 by omega, show 0 ≤ a by omega, show 0 ≤ b by omega]

/-- the quotient by its remainder -/
theorem fdiv_unique {a b q : Int} (h : (0 < b ∧ 0 ≤ a - q * b ∧ a - q * b < b) ∨ (b < 0 ∧ a - q * b ≤ 0 ∧ b < a - q * b)) : a.fdiv b = q := by
  rcases h with ⟨hb, h1, h2⟩ | ⟨hb, h1, h2⟩
  · rw [Int.fdiv_eq_ediv_of_nonneg _ (by omega)]
    have e : a = (a - q * b) + q * b := by omega
    rw [e, Int.add_mul_ediv_right _ _ (by omega), Int.ediv_eq_zero_of_lt h1 h2]; omega
  · rw [← Int.neg_fdiv_neg, Int.fdiv_eq_ediv_of_nonneg _ (by omega)]
    have e : -a = (-(a - q * b)) + q * (-b) := by rw [Int.mul_neg]; omega
    rw [e, Int.add_mul_ediv_right _ _ (by omega), Int.ediv_eq_zero_of_lt (by omega) (by omega)]; omega

theorem fdiv_rem (a b : Int) (hb : b ≠ 0) : (0 < b ∧ 0 ≤ a - a.fdiv b * b ∧ a - a.fdiv b * b < b) ∨ (b < 0 ∧ a - a.fdiv b * b ≤ 0 ∧ b < a - a.fdiv b * b) := by
  rcases Int.lt_or_gt_of_ne hb with hb' | hb'
  · right
    have h1 := Int.emod_nonneg (-a) (show -b ≠ 0 by omega)
    have h2 := Int.emod_lt_of_pos (-a) (show 0 < -b by omega)
    have h3 := Int.emod_add_mul_ediv (-a) (-b)
    rw [← Int.neg_fdiv_neg, Int.fdiv_eq_ediv_of_nonneg _ (by omega)]
    rw [Int.neg_mul, Int.mul_comm b] at h3
    omega
  · left
    have h1 := Int.emod_nonneg a (show b ≠ 0 by omega)
    have h2 := Int.emod_lt_of_pos a (show 0 < b by omega)
    have h3 := Int.emod_add_mul_ediv a b
    rw [Int.fdiv_eq_ediv_of_nonneg _ (by omega)]
    rw [Int.mul_comm b] at h3
    omega

theorem tdiv_pos {a b : Int} (ha : 0 ≤ a) (hb : 0 < b) : 0 ≤ a - a.tdiv b * b ∧ a - a.tdiv b * b < b := by
  rw [Int.tdiv_eq_ediv_of_nonneg ha]
  have h1 := Int.emod_nonneg a (show b ≠ 0 by omega)
  have h2 := Int.emod_lt_of_pos a hb
  have h3 := Int.emod_add_mul_ediv a b
  rw [Int.mul_comm b] at h3
  omega

theorem flr_fdiv (a b : Int) (hb : b ≠ 0) : flr a b = a.fdiv b := by
  symm
  apply fdiv_unique
  unfold flr
  by_cases hb' : b < 0
  · right
    rw [if_pos hb']
    by_cases ha : 0 ≤ -a
    · rw [if_pos ha]
      have h := tdiv_pos ha (show 0 < -b by omega)
      rw [Int.mul_neg] at h
      omega
    · rw [if_neg ha]
      have h := tdiv_pos (a := -b - 1 - -a) (b := -b) (by omega) (by omega)
      rw [Int.mul_neg] at h
      rw [Int.neg_mul]
      omega
  · left
    rw [if_neg hb']
    by_cases ha : 0 ≤ a
    · rw [if_pos ha]
      have h := tdiv_pos ha (show 0 < b by omega)
      omega
    · rw [if_neg ha]
      have h := tdiv_pos (a := b - 1 - a) (b := b) (by omega) (by omega)
      rw [Int.neg_mul]
      omega

theorem fdiv_bound {a b : Int} (hb : b ≠ 0) (h1 : -2147483648 ≤ a) (h2 : a ≤ 2147483648) : -2147483648 ≤ a.fdiv b ∧ a.fdiv b ≤ 2147483648 := by
  rcases Int.lt_or_gt_of_ne hb with hb' | hb'
  · rw [← Int.neg_fdiv_neg, Int.fdiv_eq_ediv_of_nonneg _ (by omega)]
    have h3 := Int.natAbs_ediv_le_natAbs (-a) (-b)
    omega
  · rw [Int.fdiv_eq_ediv_of_nonneg _ (by omega)]
    have h3 := Int.natAbs_ediv_le_natAbs a b
    omega

theorem tdiv_bound {a : Int} (b : Int) (h1 : -2147483648 ≤ a) (h2 : a ≤ 2147483648) : -2147483648 ≤ a.tdiv b ∧ a.tdiv b ≤ 2147483648 := by
  have h3 := Int.natAbs_tdiv a b
  have h4 := Nat.div_le_self a.natAbs b.natAbs
  have h5 : (a.tdiv b).natAbs ≤ a.natAbs := by rw [h3]; exact h4
  omega

theorem mul_bound {a b : Int} (h1 : -2147483648 ≤ a) (h2 : a ≤ 2147483648) (h3 : -2147483648 ≤ b) (h4 : b ≤ 2147483648) : -4611686018427387904 ≤ a * b ∧ a * b ≤ 4611686018427387904 := by
  have h5 : (a * b).natAbs ≤ 4611686018427387904 := by
    rw [Int.natAbs_mul]
    exact Nat.le_trans (Nat.mul_le_mul (show a.natAbs ≤ 2147483648 by omega) (show b.natAbs ≤ 2147483648 by omega)) (by decide)
  omega

/-- an operator's value: the number and the error code -/
def opv (s : ByteArray) (a b : Int) : Int × Int :=
  if s = cAdd then (a + b, 0) else if s = cSub then (a - b, 0) else if s = cMul then (a * b, 0) else if b = 0 then (0, 12)
  else if s = cDiv then (a.fdiv b, 0) else (a - a.fdiv b * b, 0)

/-- the value of an operator for two integers -/
def apply (s : ByteArray) (a b : Int) : Int × Int :=
  if isOp s = false then (0, 7) else if (inR a && inR b) = false then (0, 5) else
  if (opv s a b).2 ≠ 0 then (0, (opv s a b).2) else if inR (opv s a b).1 = false then (0, 5) else ((opv s a b).1, 0)

theorem inR_iff {n : Int} : inR n = true ↔ -2147483648 ≤ n ∧ n ≤ 2147483648 := by simp [inR]

theorem opv_snd (s : ByteArray) (a b : Int) : (opv s a b).2 = 0 ∨ (opv s a b).2 = 12 := by
  unfold opv
  split
  · exact .inl rfl
  split
  · exact .inl rfl
  split
  · exact .inl rfl
  split
  · exact .inr rfl
  split
  · exact .inl rfl
  · exact .inl rfl

theorem opv_ok {s : ByteArray} {a b : Int} (ia : inR a = true) (ib : inR b = true) : IntOk (opv s a b).1 := by
  have ha' := inR_iff.1 ia
  have hb' := inR_iff.1 ib
  have hm := mul_bound ha'.1 ha'.2 hb'.1 hb'.2
  unfold opv IntOk
  split
  · dsimp only; omega
  split
  · dsimp only; omega
  split
  · dsimp only; omega
  split
  · dsimp only; omega
  rename_i h4
  have h5 := fdiv_bound h4 ha'.1 ha'.2
  have h6 := mul_bound h5.1 h5.2 hb'.1 hb'.2
  split
  · dsimp only; omega
  · dsimp only; omega
end Go.CK
