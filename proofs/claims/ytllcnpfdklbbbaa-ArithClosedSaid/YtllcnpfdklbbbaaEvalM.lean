/-
  PLAIN: evaluation, folding, expressions. No function of the program is named here. By an AI agent.
-/
import Derived.Test.YtllcnpfdklbbbaaArithM
namespace Go.CK

/-- the value of a term: the number and the error code -/
def evalv : Tm → Int × Int
  | .mk k n s [a, b] =>
    if k = 1 then (0, 17) else if k = 0 then (if inR n = true then (n, 0) else (0, 5)) else if k ≠ 2 ∨ isOp s = false then (0, 11) else
    if (evalv a).2 ≠ 0 then (0, (evalv a).2) else if (evalv b).2 ≠ 0 then (0, (evalv b).2) else apply s (evalv a).1 (evalv b).1
  | .mk k n _ _ => if k = 1 then (0, 17) else if k = 0 then (if inR n = true then (n, 0) else (0, 5)) else (0, 11)

def exprv : Tm → Bool
  | .mk k _ s [a, b] => if k = 0 then true else if k ≠ 2 ∨ isOp s = false then false else (decide (a.kind = 1) || exprv a) && (decide (b.kind = 1) || exprv b)
  | .mk k _ _ _ => decide (k = 0)

def tInt (n : Int) : Tm := .mk 0 n ⟨#[]⟩ []

/-- what is left of an operator term when its arguments are folded -/
def foldTop (n : Int) (s : ByteArray) : List Tm → Tm
  | [a, b] => if isOp s = true ∧ a.kind = 0 ∧ b.kind = 0 ∧ (apply s a.num b.num).2 = 0 then tInt (apply s a.num b.num).1 else .mk 2 n s [a, b]
  | l => .mk 2 n s l

mutual
def foldv : Tm → Tm
  | .mk k n s l => if k = 0 ∧ inR n = true then tInt n else if k ≠ 2 then .mk k n s l else foldTop n s (foldvs l)
def foldvs : List Tm → List Tm
  | [] => []
  | a :: l => foldv a :: foldvs l
end

def foldDone (t : Tm) : Tm := if (evalv t).2 = 0 then tInt (evalv t).1 else t

mutual
/-- the reference's folding -/
def foldr : Tm → Tm
  | .mk k n s l => if k = 2 then foldDone (.mk k n s (foldrs l)) else foldDone (.mk k n s l)
def foldrs : List Tm → List Tm
  | [] => []
  | a :: l => foldr a :: foldrs l
end

theorem foldvs_map : ∀ l, foldvs l = l.map foldv
  | [] => rfl
  | a :: l => by rw [foldvs, foldvs_map l, List.map_cons]
theorem foldrs_map : ∀ l, foldrs l = l.map foldr
  | [] => rfl
  | a :: l => by rw [foldrs, foldrs_map l, List.map_cons]

theorem apply_in {s : ByteArray} {a b : Int} (h : (apply s a b).2 = 0) : inR (apply s a b).1 = true ∧ isOp s = true ∧ inR a = true ∧ inR b = true := by
  unfold apply at h ⊢
  split at h
  · cases h
  · rename_i h1
    rw [if_neg h1]
    split at h
    · cases h
    · rename_i h2
      rw [if_neg h2]
      split at h
      · rename_i h3; exact absurd h h3
      · rename_i h3
        rw [if_neg h3]
        split at h
        · cases h
        · rename_i h4
          rw [if_neg h4]
          simp at h1 h2 h4
          exact ⟨h4, h1, h2.1, h2.2⟩

theorem apply_fst {s : ByteArray} {a b : Int} (h : (apply s a b).2 ≠ 0) : (apply s a b).1 = 0 := by
  unfold apply at h ⊢
  split
  · rfl
  split
  · rfl
  split
  · rfl
  split
  · rfl
  · rename_i h1 h2 h3 h4
    rw [if_neg h1, if_neg h2, if_neg h3, if_neg h4] at h
    exact absurd rfl h

theorem evalv_in : ∀ t, (evalv t).2 = 0 → inR (evalv t).1 = true := by
  intro t
  obtain ⟨k, n, s, l⟩ := t
  unfold evalv
  split
  · intro h
    split at h <;> rename_i h1
    · cases h
    rw [if_neg h1]
    split at h <;> rename_i h2
    · rw [if_pos h2]
      split at h <;> rename_i h3
      · rw [if_pos h3]; exact h3
      · cases h
    rw [if_neg h2]
    split at h <;> rename_i h3
    · cases h
    rw [if_neg h3]
    split at h <;> rename_i h4
    · exact absurd h h4
    rw [if_neg h4]
    split at h <;> rename_i h5
    · exact absurd h h5
    rw [if_neg h5]
    exact (apply_in h).1
  · intro h
    split at h <;> rename_i h1
    · cases h
    rw [if_neg h1]
    split at h <;> rename_i h2
    · rw [if_pos h2]
      split at h <;> rename_i h3
      · rw [if_pos h3]; exact h3
      · cases h
    · cases h

theorem evalv_tInt {n : Int} (h : inR n = true) : evalv (tInt n) = (n, 0) := by simp [tInt, evalv, h]

theorem foldv_tInt {n : Int} (h : inR n = true) : foldv (tInt n) = tInt n := by simp [tInt, foldv, h]

theorem evalv_ne {k n : Int} {s : ByteArray} {l : List Tm} (h : l.length ≠ 2) : evalv (.mk k n s l) = if k = 1 then (0, 17) else if k = 0 then (if inR n = true then (n, 0) else (0, 5)) else (0, 11) := by
  match l, h with
  | [], _ => simp [evalv]
  | [a], _ => simp [evalv]
  | a :: b :: c :: r, _ => simp [evalv]

theorem evalv_eq {k n : Int} {s : ByteArray} {a b : Tm} : evalv (.mk k n s [a, b]) = if k = 1 then (0, 17) else if k = 0 then (if inR n = true then (n, 0) else (0, 5)) else if k ≠ 2 ∨ isOp s = false then (0, 11) else
    if (evalv a).2 ≠ 0 then (0, (evalv a).2) else if (evalv b).2 ≠ 0 then (0, (evalv b).2) else apply s (evalv a).1 (evalv b).1 := by rw [evalv]

theorem two_of_len {α : Type} {l : List α} (h : l.length = 2) : ∃ a b, l = [a, b] := by
  match l, h with
  | [a, b], _ => exact ⟨a, b, rfl⟩

theorem evalv_01 {k n : Int} {s : ByteArray} {l : List Tm} (h2 : k ≠ 2) : evalv (.mk k n s l) = if k = 1 then (0, 17) else if k = 0 then (if inR n = true then (n, 0) else (0, 5)) else (0, 11) := by
  by_cases h : l.length = 2
  · obtain ⟨a, b, rfl⟩ := two_of_len h
    rw [evalv_eq, if_pos (show k ≠ 2 ∨ isOp s = false from .inl h2)]
  · exact evalv_ne h

theorem evalv_int {n : Int} {s : ByteArray} {l : List Tm} (h : inR n = true) : evalv (.mk 0 n s l) = (n, 0) := by
  rw [evalv_01 (by simp)]; simp [h]

theorem evalv_kind0 {t : Tm} (h : t.kind = 0) (hn : inR t.num = true) : evalv t = (t.num, 0) := by
  obtain ⟨k, n, s, l⟩ := t
  simp only [Tm.kind, Tm.num] at *
  subst h
  exact evalv_int hn

theorem evalv_other {k n : Int} {s : ByteArray} {l : List Tm} (h2 : k ≠ 2) (h : ¬ (k = 0 ∧ inR n = true)) : (evalv (.mk k n s l)).2 ≠ 0 := by
  rw [evalv_01 h2]
  split
  · simp
  split
  · rename_i h0
    rw [if_neg (fun e => h ⟨h0, e⟩)]; simp
  · simp

theorem evalv_len {n : Int} {s : ByteArray} {l : List Tm} (h : l.length ≠ 2) : evalv (.mk 2 n s l) = (0, 11) := by
  rw [evalv_ne h]; simp

theorem evalv_two {n : Int} {s : ByteArray} {a b : Tm} : evalv (.mk 2 n s [a, b]) = if isOp s = false then (0, 11) else
    if (evalv a).2 ≠ 0 then (0, (evalv a).2) else if (evalv b).2 ≠ 0 then (0, (evalv b).2) else apply s (evalv a).1 (evalv b).1 := by
  rw [evalv]; simp

theorem foldTop_len {n : Int} {s : ByteArray} {l : List Tm} (h : l.length ≠ 2) : foldTop n s l = .mk 2 n s l := by
  match l, h with
  | [], _ => rfl
  | [a], _ => rfl
  | a :: b :: c :: r, _ => rfl

theorem foldDone_ok {t : Tm} (h : (evalv t).2 = 0) : foldDone t = tInt (evalv t).1 := by rw [foldDone, if_pos h]
theorem foldDone_no {t : Tm} (h : (evalv t).2 ≠ 0) : foldDone t = t := by rw [foldDone, if_neg h]

/-- folding: it keeps values, a term with a value becomes it, the reference does the same, and a folded term stays -/
theorem fold_all (t : Tm) : evalv (foldv t) = evalv t ∧ ((evalv t).2 = 0 → foldv t = tInt (evalv t).1) ∧ foldr t = foldv t ∧ foldv (foldv t) = foldv t := by
  induction t using Tm.ind_all with
  | h k n s l ih =>
  rw [foldv, foldr, foldvs_map, foldrs_map]
  by_cases h0 : k = 0 ∧ inR n = true
  · obtain ⟨rfl, hn⟩ := h0
    rw [if_pos ⟨rfl, hn⟩, if_neg (by decide), evalv_int hn, evalv_tInt hn, foldDone_ok (by rw [evalv_int hn]), evalv_int hn, foldv_tInt hn]
    exact ⟨rfl, fun _ => rfl, rfl, rfl⟩
  rw [if_neg h0]
  by_cases h2 : k = 2
  case neg =>
    have hne := evalv_other (s := s) (l := l) h2 h0
    rw [if_pos h2, if_neg h2, foldDone_no hne, foldv, if_neg h0, if_pos h2]
    exact ⟨rfl, fun e => absurd e hne, rfl, rfl⟩
  subst h2
  rw [if_neg (by simp), if_pos rfl]
  have hm : l.map foldr = l.map foldv := List.map_congr_left fun x hx => (ih x hx).2.2.1
  rw [hm]
  have hid : ∀ l' : List Tm, l' = l.map foldv → foldvs l' = l' := by
    intro l' e
    subst e
    rw [foldvs_map, List.map_map]
    exact List.map_congr_left fun x hx => (ih x hx).2.2.2
  by_cases hl : l.length = 2
  case neg =>
    have hl' : (l.map foldv).length ≠ 2 := by simpa using hl
    rw [foldTop_len hl', evalv_len hl', evalv_len hl, foldDone_no (by rw [evalv_len hl']; simp), foldv, if_neg (by simp), if_neg (by simp), hid _ rfl, foldTop_len hl']
    exact ⟨rfl, fun e => by simp at e, rfl, rfl⟩
  obtain ⟨a, b, rfl⟩ := two_of_len hl
  obtain ⟨a1, a2, _, a4⟩ := ih a (by simp)
  obtain ⟨b1, b2, _, b4⟩ := ih b (by simp)
  simp only [List.map_cons, List.map_nil] at *
  have hev : evalv (.mk 2 n s [foldv a, foldv b]) = evalv (.mk 2 n s [a, b]) := by rw [evalv_two, evalv_two, a1, b1]
  by_cases hc : isOp s = true ∧ (foldv a).kind = 0 ∧ (foldv b).kind = 0 ∧ (apply s (foldv a).num (foldv b).num).2 = 0
  · obtain ⟨c1, c2, c3, c4⟩ := hc
    obtain ⟨i1, _, i2, i3⟩ := apply_in c4
    have e1 := evalv_kind0 c2 i2
    have e2 := evalv_kind0 c3 i3
    have hv : evalv (.mk 2 n s [a, b]) = apply s (foldv a).num (foldv b).num := by
      rw [← hev, evalv_two, e1, e2, if_neg (by simp [c1]), if_neg (by simp), if_neg (by simp)]
    have ht : foldTop n s [foldv a, foldv b] = tInt (apply s (foldv a).num (foldv b).num).1 := by rw [foldTop, if_pos ⟨c1, c2, c3, c4⟩]
    rw [ht, hv, evalv_tInt i1, foldDone_ok (by rw [hev, hv]; exact c4), hev, hv, foldv_tInt i1]
    exact ⟨Prod.ext rfl c4.symm, fun _ => rfl, rfl, rfl⟩
  · have ht : foldTop n s [foldv a, foldv b] = .mk 2 n s [foldv a, foldv b] := by rw [foldTop, if_neg hc]
    have hne : (evalv (.mk 2 n s [a, b])).2 ≠ 0 := by
      intro e
      rw [evalv_two] at e
      split at e <;> rename_i g1
      · simp at e
      split at e <;> rename_i g2
      · exact g2 e
      split at e <;> rename_i g3
      · exact g3 e
      have ga := a2 (by simpa using g2)
      have gb := b2 (by simpa using g3)
      apply hc
      rw [ga, gb]
      exact ⟨by simpa using g1, rfl, rfl, e⟩
    rw [ht, hev, foldDone_no (by rw [hev]; exact hne), foldv, if_neg (by simp), if_neg (by simp), hid [foldv a, foldv b] rfl, ht]
    exact ⟨rfl, fun e => absurd e hne, rfl, rfl⟩

theorem evalv_fst : ∀ t, (evalv t).2 ≠ 0 → (evalv t).1 = 0 := by
  intro t
  obtain ⟨k, n, s, l⟩ := t
  by_cases h : k = 2 ∧ l.length = 2
  · obtain ⟨rfl, hl⟩ := h
    obtain ⟨a, b, rfl⟩ := two_of_len hl
    rw [evalv_two]
    split
    · intro _; rfl
    split
    · intro _; rfl
    split
    · intro _; rfl
    exact apply_fst
  · have e : evalv (.mk k n s l) = if k = 1 then (0, 17) else if k = 0 then (if inR n = true then (n, 0) else (0, 5)) else (0, 11) := by
      by_cases h2 : k = 2
      · exact evalv_ne fun e => h ⟨h2, e⟩
      · exact evalv_01 h2
    rw [e]
    split
    · intro _; rfl
    split
    · split
      · intro h; exact absurd rfl h
      · intro _; rfl
    · intro _; rfl
end Go.CK
