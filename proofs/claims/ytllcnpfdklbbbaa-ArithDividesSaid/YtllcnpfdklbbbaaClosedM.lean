/-
  PLAIN: what an expression's value can be; quotient and remainder. No function of the program is named here. By an AI agent.
-/
import Derived.Test.YtllcnpfdklbbbaaEvalM
namespace Go.CK

theorem apply_code {s : ByteArray} {a b : Int} (h : isOp s = true) : (apply s a b).2 = 0 ∨ (apply s a b).2 = 5 ∨ (apply s a b).2 = 12 := by
  rw [apply, if_neg (by simp [h])]
  split
  · exact .inr (.inl rfl)
  split
  · rcases opv_snd s a b with h1 | h1
    · exact .inl h1
    · exact .inr (.inr h1)
  split
  · exact .inr (.inl rfl)
  · exact .inl rfl

mutual
/-- a variable occurs in the term -/
def varv : Tm → Bool
  | .mk k _ _ l => decide (k = 1) || varvs l
def varvs : List Tm → Bool
  | [] => false
  | a :: l => varv a || varvs l
end
theorem varvs_any : ∀ l, varvs l = l.any varv
  | [] => rfl
  | a :: l => by rw [varvs, varvs_any l, List.any_cons]

def okCode (n : Int) : Prop := n = 0 ∨ n = 5 ∨ n = 12 ∨ n = 17

theorem exprv_two {n : Int} {s : ByteArray} {a b : Tm} (h : exprv (.mk 2 n s [a, b]) = true) : isOp s = true ∧ (a.kind = 1 ∨ exprv a = true) ∧ (b.kind = 1 ∨ exprv b = true) := by
  rw [exprv, if_neg (by simp)] at h
  split at h
  · cases h
  · rename_i h1
    simp only [not_or, Bool.not_eq_false] at h1
    simpa [h1.2] using h

theorem closed_all (t : Tm) : ((evalv t).2 = 17 → varv t = true) ∧ ((t.kind = 1 ∨ exprv t = true) → okCode (evalv t).2) := by
  induction t using Tm.ind_all with
  | h k n s l ih =>
  by_cases h1 : k = 1
  · subst h1
    rw [evalv_01 (by simp), if_pos rfl]
    exact ⟨fun _ => by simp [varv], fun _ => .inr (.inr (.inr rfl))⟩
  by_cases h0 : k = 0
  · subst h0
    rw [evalv_01 (by simp), if_neg h1, if_pos rfl]
    split
    · exact ⟨fun e => by simp at e, fun _ => .inl rfl⟩
    · exact ⟨fun e => by simp at e, fun _ => .inr (.inl rfl)⟩
  by_cases h2 : k = 2 ∧ l.length = 2
  · obtain ⟨rfl, hl⟩ := h2
    obtain ⟨a, b, rfl⟩ := two_of_len hl
    obtain ⟨a1, a2⟩ := ih a (by simp)
    obtain ⟨b1, b2⟩ := ih b (by simp)
    have hvar : varv a = true ∨ varv b = true → varv (.mk 2 n s [a, b]) = true := fun h => by simp [varv, varvs]; exact h
    rw [evalv_two]
    constructor
    · intro h
      split at h
      · simp at h
      split at h
      · exact hvar (.inl (a1 h))
      split at h
      · exact hvar (.inr (b1 h))
      · rename_i g1 _ _
        rcases apply_code (s := s) (a := (evalv a).1) (b := (evalv b).1) (by simpa using g1) with e | e | e <;> rw [e] at h <;> simp at h
    · rintro (h | h)
      · simp [Tm.kind] at h
      · obtain ⟨e1, e2, e3⟩ := exprv_two h
        rw [if_neg (by simp [e1])]
        split
        · exact a2 e2
        split
        · exact b2 e3
        · rcases apply_code (s := s) (a := (evalv a).1) (b := (evalv b).1) e1 with e | e | e
          · exact .inl e
          · exact .inr (.inl e)
          · exact .inr (.inr (.inl e))
  · have e : evalv (.mk k n s l) = (0, 11) := by
      by_cases hk : k = 2
      · subst hk
        exact evalv_len fun e => h2 ⟨rfl, e⟩
      · rw [evalv_01 hk, if_neg h1, if_neg h0]
    rw [e]
    refine ⟨fun h => by simp at h, ?_⟩
    rintro (h | h)
    · exact absurd h h1
    · exfalso
      by_cases hl : l.length = 2
      · obtain ⟨a, b, rfl⟩ := two_of_len hl
        have hk : k ≠ 2 := fun e => h2 ⟨e, rfl⟩
        rw [exprv, if_neg h0, if_pos (.inl hk)] at h
        cases h
      · match l, hl with
        | [], _ => simp [exprv, h0] at h
        | [a], _ => simp [exprv, h0] at h
        | a :: b :: c :: r, _ => simp [exprv, h0] at h

theorem isOp_div : isOp cDiv = true := by decide
theorem isOp_mod : isOp cMod = true := by decide

/-- what the quotient and the remainder are, where both are in range -/
theorem divides (a b : Int) (hq : (apply cDiv a b).2 = 0) (hr : (apply cMod a b).2 = 0) :
    inR a = true ∧ inR b = true ∧ b ≠ 0 ∧ (apply cDiv a b).1 = a.fdiv b ∧ (apply cMod a b).1 = a - a.fdiv b * b := by
  obtain ⟨_, _, ia, ib⟩ := apply_in hq
  have hb : b ≠ 0 := by
    intro e
    subst e
    rw [apply, if_neg (by simp [isOp_div]), if_neg (by simp [ia, ib])] at hq
    have h1 : opv cDiv a 0 = (0, 12) := by simp [opv, cDiv, cAdd, cSub, cMul]
    rw [h1] at hq
    simp at hq
  have h1 : opv cDiv a b = (a.fdiv b, 0) := by simp [opv, cDiv, cAdd, cSub, cMul, hb]
  have h2 : opv cMod a b = (a - a.fdiv b * b, 0) := by simp [opv, cMod, cDiv, cAdd, cSub, cMul, hb]
  refine ⟨ia, ib, hb, ?_, ?_⟩
  · rw [apply, if_neg (by simp [isOp_div]), if_neg (by simp [ia, ib]), h1] at hq ⊢
    simp only [ne_eq, not_true_eq_false, if_false] at hq ⊢
    split at hq
    · simp at hq
    · rename_i h; rw [if_neg h]
  · rw [apply, if_neg (by simp [isOp_mod]), if_neg (by simp [ia, ib]), h2] at hr ⊢
    simp only [ne_eq, not_true_eq_false, if_false] at hr ⊢
    split at hr
    · simp at hr
    · rename_i h; rw [if_neg h]
end Go.CK
