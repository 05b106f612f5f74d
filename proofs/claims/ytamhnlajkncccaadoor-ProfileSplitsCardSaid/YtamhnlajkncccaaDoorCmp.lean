/-
  COMPARING TERMS, WEIGHING TERMS, FINDING: plain functions. No program is named here. By an AI agent.
-/
import Derived.Test.YtamhnlajkncccaaDoorTerm
set_option linter.unusedSimpArgs false
set_option linter.unusedVariables false
namespace Go.CK
/-! ### finding -/
/-- where the first is for which p holds; the length: none -/
def firstP {α : Type} (p : α → Bool) : List α → Nat
  | [] => 0
  | x :: r => if p x then 0 else firstP p r + 1
theorem firstP_eq {α : Type} {p : α → Bool} : ∀ {l : List α} {k : Nat}, (∀ i x, i < k → l[i]? = some x → p x = false) → k ≤ l.length → (∀ x, l[k]? = some x → p x = true) → firstP p l = k
  | [], k, _, h2, _ => by simp only [List.length_nil, Nat.le_zero] at h2; subst h2; rfl
  | x :: r, 0, _, _, h3 => by rw [firstP, if_pos (h3 x rfl)]
  | x :: r, k + 1, h1, h2, h3 => by
    rw [firstP, if_neg (by rw [h1 0 x (by omega) rfl]; decide), firstP_eq (k := k) (fun i y hi hy => h1 (i + 1) y (by omega) (by simpa using hy)) (by simpa using h2) (fun y hy => h3 y (by simpa using hy))]
theorem firstP_le {α : Type} (p : α → Bool) : ∀ l : List α, firstP p l ≤ l.length
  | [] => Nat.le_refl _
  | x :: r => by
    have := firstP_le p r
    rw [firstP]; split <;> simp <;> omega
theorem firstP_lt {α : Type} {p : α → Bool} : ∀ {l : List α}, firstP p l < l.length ↔ ∃ x ∈ l, p x = true
  | [] => by simp [firstP]
  | x :: r => by
    have := firstP_lt (p := p) (l := r)
    rw [firstP]
    split
    · rename_i h
      simp [h]
    · rename_i h
      simp [this, h]
theorem firstP_at {α : Type} {p : α → Bool} : ∀ {l : List α} {x : α}, l[firstP p l]? = some x → p x = true
  | [], x, h => by simp at h
  | y :: r, x, h => by
    rw [firstP] at h
    split at h
    · simp at h; subst h; assumption
    · exact firstP_at (l := r) (by simpa using h)
/-- the place, or -1 -/
def findI {α : Type} (p : α → Bool) (l : List α) : Int := if firstP p l < l.length then firstP p l else -1
theorem findI_pos {α : Type} (p : α → Bool) (l : List α) : decide (0 ≤ findI p l) = l.any p := by
  unfold findI
  have h := firstP_lt (p := p) (l := l)
  rw [Bool.eq_iff_iff, List.any_eq_true, decide_eq_true_eq, ← h]
  split <;> rename_i h2
  · exact ⟨fun _ => h2, fun _ => by omega⟩
  · exact ⟨fun h => absurd h (by decide), fun h => absurd h h2⟩
theorem findI_at {α : Type} {p : α → Bool} {l : List α} {j : Nat} {x : α} (h1 : ∀ i x, i < j → l[i]? = some x → p x = false) (hx : l[j]? = some x) (h : p x = true) : findI p l = j := by
  have hj := (List.getElem?_eq_some_iff.1 hx).1
  have := firstP_eq h1 (Nat.le_of_lt hj) (fun y hy => by rw [hx] at hy; cases hy; exact h)
  rw [findI, this, if_pos hj]
theorem findI_no {α : Type} {p : α → Bool} {l : List α} (h1 : ∀ i x, i < l.length → l[i]? = some x → p x = false) : findI p l = -1 := by
  have := firstP_eq h1 (Nat.le_refl _) (fun y hy => by rw [List.getElem?_eq_none (Nat.le_refl _)] at hy; cases hy)
  rw [findI, this, if_neg (Nat.lt_irrefl _)]
theorem no_succ {α : Type} {p : α → Bool} {l : List α} {j : Nat} {x : α} (h1 : ∀ i x, i < j → l[i]? = some x → p x = false) (hx : l[j]? = some x) (h : p x = false) : ∀ i x, i < j + 1 → l[i]? = some x → p x = false := fun i y hi hy => by
  by_cases e : i = j
  · subst e; rw [hx] at hy; cases hy; exact h
  · exact h1 i y (by omega) hy
theorem no_zero {α : Type} {p : α → Bool} {l : List α} : ∀ i x, i < 0 → l[i]? = some x → p x = false := fun i _ hi => by omega
theorem any_no {α : Type} {p : α → Bool} {l : List α} (h1 : ∀ i x, i < l.length → l[i]? = some x → p x = false) : l.any p = false := by
  rw [List.any_eq_false]
  intro x hx
  obtain ⟨i, hi, rfl⟩ := List.getElem_of_mem hx
  rw [h1 i _ hi (List.getElem?_eq_getElem hi)]; decide
theorem any_at {α : Type} {p : α → Bool} {l : List α} {j : Nat} {x : α} (hx : l[j]? = some x) (h : p x = true) : l.any p = true := List.any_eq_true.2 ⟨x, List.mem_of_getElem? hx, h⟩
theorem all_no {α : Type} {p : α → Bool} {l : List α} {j : Nat} {x : α} (hx : l[j]? = some x) (h : p x = false) : l.all p = false := List.all_eq_false.2 ⟨x, List.mem_of_getElem? hx, by rw [h]; decide⟩
theorem all_yes {α : Type} {p : α → Bool} {l : List α} (h1 : ∀ i x, i < l.length → l[i]? = some x → p x = true) : l.all p = true := by
  rw [List.all_eq_true]
  intro x hx
  obtain ⟨i, hi, rfl⟩ := List.getElem_of_mem hx
  exact h1 i _ hi (List.getElem?_eq_getElem hi)
theorem yes_succ {α : Type} {p : α → Prop} {l : List α} {j : Nat} {x : α} (h1 : ∀ i x, i < j → l[i]? = some x → p x) (hx : l[j]? = some x) (h : p x) : ∀ i x, i < j + 1 → l[i]? = some x → p x := fun i y hi hy => by
  by_cases e : i = j
  · subst e; rw [hx] at hy; cases hy; exact h
  · exact h1 i y (by omega) hy

/-! ### comparing -/
def cmpI (x y : Int) : Int := if x < y then -1 else if y < x then 1 else 0
def cmpS (x y : ByteArray) : Int := if Op.bytesLess x.toList y.toList = true then -1 else if x = y then 0 else 1
def orI (a b : Int) : Int := if a = 0 then b else a
theorem orI_z (b : Int) : orI 0 b = b := rfl
theorem orI_n {a : Int} (h : ¬ a = 0) (b : Int) : orI a b = a := if_neg h
theorem cmpI_refl (x : Int) : cmpI x x = 0 := by simp [cmpI]
theorem less_irr : ∀ l : List UInt8, Op.bytesLess l l = false
  | [] => rfl
  | x :: l => by simp [Op.bytesLess, less_irr l]
theorem cmpS_refl (x : ByteArray) : cmpS x x = 0 := by simp [cmpS, less_irr]
theorem cmpI_z {x y : Int} : cmpI x y = 0 ↔ x = y := by unfold cmpI; split <;> rename_i h <;> first | (split <;> omega) | omega
theorem cmpS_z {x y : ByteArray} : cmpS x y = 0 ↔ x = y := by
  unfold cmpS
  split
  · rename_i h
    refine ⟨fun h => absurd h (by decide), fun e => ?_⟩
    subst e; rw [less_irr] at h; cases h
  · split
    · simp [*]
    · simp [*]
def rankI (k : Int) : Int := if k = 1 then 0 else if k = 0 then 1 else if k = 2 then 2 else 3
mutual
def Tm.cmp : Tm → Tm → Int
  | .mk k n s l, b =>
    orI (cmpI (rankI k) (rankI b.kind)) (if rankI k = 0 ∨ rankI k = 1 then cmpI n b.num else if rankI k = 2 then orI (cmpI l.length b.args.length) (orI (cmpS s b.name) (Tm.cmps l b.args)) else orI (cmpI k b.kind) (orI (cmpI n b.num) (cmpS s b.name)))
def Tm.cmps : List Tm → List Tm → Int
  | [], m => cmpI 0 m.length
  | x :: l, m => match m with
    | [] => 1
    | y :: m => orI (Tm.cmp x y) (Tm.cmps l m)
end
theorem Tm.cmp_eq (a b : Tm) : a.cmp b = orI (cmpI (rankI a.kind) (rankI b.kind)) (if rankI a.kind = 0 ∨ rankI a.kind = 1 then cmpI a.num b.num else if rankI a.kind = 2 then orI (cmpI a.args.length b.args.length) (orI (cmpS a.name b.name) (Tm.cmps a.args b.args)) else orI (cmpI a.kind b.kind) (orI (cmpI a.num b.num) (cmpS a.name b.name))) := by
  obtain ⟨k, n, s, l⟩ := a
  rw [Tm.cmp]; rfl
theorem cmps_step {l m : List Tm} {j : Nat} {x y : Tm} (hx : l[j]? = some x) (hy : m[j]? = some y) : Tm.cmps (l.drop j) (m.drop j) = orI (x.cmp y) (Tm.cmps (l.drop (j + 1)) (m.drop (j + 1))) := by
  obtain ⟨h1, rfl⟩ := List.getElem?_eq_some_iff.1 hx
  obtain ⟨h2, rfl⟩ := List.getElem?_eq_some_iff.1 hy
  rw [List.drop_eq_getElem_cons h1, List.drop_eq_getElem_cons h2, Tm.cmps]
theorem cmps_end {l m : List Tm} {j : Nat} (h1 : j ≤ l.length) (h2 : j ≤ m.length) (h : j = l.length ∨ j = m.length) : Tm.cmps (l.drop j) (m.drop j) = cmpI l.length m.length := by
  rcases Nat.lt_or_ge j l.length with h3 | h3
  · have : j = m.length := by omega
    subst this
    rw [List.drop_eq_getElem_cons h3, List.drop_length, Tm.cmps, cmpI, if_neg (by omega), if_pos (by omega)]
  · have : j = l.length := by omega
    subst this
    rw [List.drop_length, Tm.cmps, List.length_drop]
    unfold cmpI
    split <;> split <;> first | rfl | omega | (split <;> first | rfl | omega)
theorem Tm.cmp_refl (t : Tm) : t.cmp t = 0 := by
  induction t using Tm.ind_all with
  | h k n s l ih =>
    have hl : ∀ r : List Tm, (∀ t ∈ r, t.cmp t = 0) → Tm.cmps r r = 0 := fun r => by
      induction r with
      | nil => intro _; rfl
      | cons t r ihr => intro h; rw [Tm.cmps, h t (by simp), orI_z]; exact ihr fun x hx => h x (by simp [hx])
    rw [Tm.cmp]
    simp only [Tm.kind, Tm.num, Tm.name, Tm.args, cmpI_refl, cmpS_refl, orI_z, hl l ih]
    split <;> first | rfl | (split <;> rfl)
theorem Tm.cmps_refl : ∀ l : List Tm, Tm.cmps l l = 0
  | [] => rfl
  | t :: r => by rw [Tm.cmps, t.cmp_refl, orI_z]; exact Tm.cmps_refl r

/-! ### weighing -/
mutual
def Tm.wgh : Tm → Int → Int → Int
  | .mk _ _ s l, left, deep => if deep - 1 = 0 ∨ left - 1 - (s.size : Int).tdiv 8 < l.length then -1 else Tm.wghs l (left - 1 - (s.size : Int).tdiv 8) (deep - 1)
def Tm.wghs : List Tm → Int → Int → Int
  | [], left, _ => left
  | t :: r, left, deep => if left < 0 then left else Tm.wghs r (Tm.wgh t left deep) deep
end
/-- what is left behind a list of terms -/
def weighI (l : List Tm) (left deep : Int) : Int := if deep = 0 ∨ left < l.length then -1 else Tm.wghs l left deep
theorem Tm.wgh_eq (t : Tm) (left deep : Int) : t.wgh left deep = weighI t.args (left - 1 - (t.name.size : Int).tdiv 8) (deep - 1) := by
  obtain ⟨k, n, s, l⟩ := t
  rw [Tm.wgh]; rfl
theorem tdiv8 (n : Nat) : (n : Int).tdiv 8 = ((n / 8 : Nat) : Int) := by rw [Int.tdiv_eq_ediv_of_nonneg (by omega)]; rfl
theorem wghs_step {l : List Tm} {j : Nat} {x : Tm} (hx : l[j]? = some x) {left : Int} (h : 0 ≤ left) (deep : Int) : Tm.wghs (l.drop j) left deep = Tm.wghs (l.drop (j + 1)) (x.wgh left deep) deep := by
  obtain ⟨h1, rfl⟩ := List.getElem?_eq_some_iff.1 hx
  rw [List.drop_eq_getElem_cons h1, Tm.wghs, if_neg (by omega)]
theorem wghs_neg (l : List Tm) {left : Int} (h : left < 0) (deep : Int) : Tm.wghs l left deep = left := by
  cases l with
  | nil => rfl
  | cons t r => rw [Tm.wghs, if_pos h]
theorem weigh_le (t : Tm) : ∀ left deep : Int, -1 ≤ weighI t.args left deep ∧ weighI t.args left deep ≤ max left (-1) := by
  induction t using Tm.ind_all with
  | h k n s l ih =>
    have hl : ∀ r : List Tm, (∀ t ∈ r, t ∈ l) → ∀ left deep : Int, -1 ≤ left → -1 ≤ Tm.wghs r left deep ∧ Tm.wghs r left deep ≤ left := fun r => by
      induction r with
      | nil => intro _ left deep h; simp only [Tm.wghs]; omega
      | cons t r ihr =>
        intro hm left deep h
        have h1 := ih t (hm t (by simp)) (left - 1 - (t.name.size : Int).tdiv 8) (deep - 1)
        rw [← Tm.wgh_eq, tdiv8] at h1
        simp only [Tm.wghs]
        split
        · omega
        · have h2 := ihr (fun x hx => hm x (by simp [hx])) (t.wgh left deep) deep h1.1
          omega
    intro left deep
    show -1 ≤ weighI l left deep ∧ weighI l left deep ≤ max left (-1)
    by_cases hc : deep = 0 ∨ left < l.length
    · rw [weighI, if_pos hc]; omega
    · rw [weighI, if_neg hc]
      have := hl l (fun _ h => h) left deep (by omega)
      omega
theorem wgh_le (t : Tm) (left deep : Int) (h : -1 ≤ left) : -1 ≤ t.wgh left deep ∧ t.wgh left deep ≤ left := by
  have := weigh_le t (left - 1 - (t.name.size : Int).tdiv 8) (deep - 1)
  rw [← Tm.wgh_eq, tdiv8] at this
  omega
end Go.CK
