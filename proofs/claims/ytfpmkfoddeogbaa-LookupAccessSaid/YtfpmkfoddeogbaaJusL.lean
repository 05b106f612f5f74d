/-
  SETS OF NUMBERS AS ASCENDING LISTS: the plain law of JUSTIFY. No program is named here. By an AI agent.
-/
import Derived.Lib.SlicesCompact
namespace Go.CK
open Go.Lib
/-- ascending, each once -/
abbrev Asc (l : List Int) : Prop := l.Pairwise (· < ·)
theorem Asc.ext : ∀ {l m : List Int}, Asc l → Asc m → (∀ x, x ∈ l ↔ x ∈ m) → l = m
  | [], [], _, _, _ => rfl
  | [], y :: m, _, _, h => by have := (h y).2 (by simp); cases this
  | x :: l, [], _, _, h => by have := (h x).1 (by simp); cases this
  | x :: l, y :: m, hl, hm, h => by
    have hl := List.pairwise_cons.1 hl
    have hm := List.pairwise_cons.1 hm
    have e : x = y := by
      rcases List.mem_cons.1 ((h x).1 (by simp)) with h1 | h1
      · exact h1
      · rcases List.mem_cons.1 ((h y).2 (by simp)) with h2 | h2
        · exact h2.symm
        · have a := hm.1 x h1
          have b := hl.1 y h2
          omega
    subst e
    rw [Asc.ext hl.2 hm.2 fun z => ⟨fun hz => ?_, fun hz => ?_⟩]
    · rcases List.mem_cons.1 ((h z).1 (by simp [hz])) with h1 | h1
      · have := hl.1 z hz; omega
      · exact h1
    · rcases List.mem_cons.1 ((h z).2 (by simp [hz])) with h1 | h1
      · have := hm.1 z hz; omega
      · exact h1
theorem compactUp_spec (d : Array Int) (hs : ∀ i j, i < j → j < d.size → d[i]! ≤ d[j]!) : ∀ m, m ≤ d.size → Asc (compactUpTo d m) ∧ ∀ x, x ∈ compactUpTo d m ↔ ∃ i, i < m ∧ d[i]! = x
  | 0, _ => ⟨by simp [compactUpTo], fun x => by simp [compactUpTo]⟩
  | m + 1, h => by
    obtain ⟨h1, h2⟩ := compactUp_spec d hs m (by omega)
    rw [compactUpTo_succ]
    cases hk : keeps d m with
    | true =>
      simp only [keeps, decide_eq_true_eq] at hk
      simp only [if_true]
      refine ⟨List.pairwise_append.2 ⟨h1, List.pairwise_singleton _ _, fun a ha b hb => ?_⟩, fun x => ?_⟩
      · rw [List.mem_singleton.1 hb]
        obtain ⟨i, hi, rfl⟩ := (h2 a).1 ha
        have h3 := hs (m - 1) m (by omega) (by omega)
        have h4 : d[i]! ≤ d[m - 1]! := by
          by_cases e : i = m - 1
          · rw [e]; exact Int.le_refl _
          · exact hs i (m - 1) (by omega) (by omega)
        rcases hk with hk | hk
        · omega
        · omega
      · simp only [List.mem_append, List.mem_singleton, h2]
        constructor
        · rintro (⟨i, hi, rfl⟩ | rfl)
          · exact ⟨i, by omega, rfl⟩
          · exact ⟨m, by omega, rfl⟩
        · rintro ⟨i, hi, rfl⟩
          by_cases e : i = m
          · exact .inr (by rw [e])
          · exact .inl ⟨i, by omega, rfl⟩
    | false =>
      simp only [keeps, decide_eq_false_iff_not, not_or, Decidable.not_not] at hk
      simp only [Bool.false_eq_true, if_false, List.append_nil]
      refine ⟨h1, fun x => ?_⟩
      rw [h2]
      constructor
      · rintro ⟨i, hi, rfl⟩
        exact ⟨i, by omega, rfl⟩
      · rintro ⟨i, hi, rfl⟩
        by_cases e : i = m
        · exact ⟨m - 1, by omega, by rw [e, hk.2]⟩
        · exact ⟨i, by omega, rfl⟩
def sortI_ (l : List Int) : List Int := l.mergeSort fun x y => decide (x ≤ y)
theorem sort_le (l : List Int) : (l.mergeSort fun x y => decide (x ≤ y)).Pairwise (· ≤ ·) := by
  have := List.pairwise_mergeSort (le := fun (x y : Int) => decide (x ≤ y)) (fun a b c h1 h2 => by simp only [decide_eq_true_eq] at *; omega) (fun a b => by simp only [Bool.or_eq_true, decide_eq_true_eq]; omega) l
  exact this.imp fun h => of_decide_eq_true h
theorem compact_spec {l : List Int} (hs : l.Pairwise (· ≤ ·)) : Asc (compact l) ∧ ∀ x, x ∈ compact l ↔ x ∈ l := by
  have hg : ∀ i (hi : i < l.length), l.toArray[i]! = l[i] := fun i hi => by
    rw [getElem!_pos l.toArray i (by simpa using hi)]; simp
  obtain ⟨h1, h2⟩ := compactUp_spec l.toArray (fun i j hij hj => by
    have hj' : j < l.length := by simpa using hj
    rw [hg i (by omega), hg j hj']
    exact List.pairwise_iff_getElem.1 hs i j (by omega) hj' hij) l.length (by simp)
  refine ⟨h1, fun x => (h2 x).trans ⟨?_, ?_⟩⟩
  · rintro ⟨i, hi, rfl⟩
    rw [hg i hi]; exact List.getElem_mem hi
  · intro h
    obtain ⟨i, hi, rfl⟩ := List.getElem_of_mem h
    exact ⟨i, hi, hg i hi⟩
/-- the numbers of lists, each once, ascending -/
def setI (l : List Int) : List Int := compact (l.mergeSort fun x y => decide (x ≤ y))
theorem setI_asc (l : List Int) : Asc (setI l) := (compact_spec (sort_le l)).1
theorem setI_mem {l : List Int} {x : Int} : x ∈ setI l ↔ x ∈ l := ((compact_spec (sort_le l)).2 x).trans List.mem_mergeSort
theorem setI_of {l m : List Int} (hm : Asc m) (h : ∀ x, x ∈ l ↔ x ∈ m) : setI l = m := (setI_asc l).ext hm fun x => setI_mem.trans (h x)
theorem setI_congr {l m : List Int} (h : ∀ x, x ∈ l ↔ x ∈ m) : setI l = setI m := setI_of (setI_asc m) fun x => (h x).trans setI_mem.symm
theorem setI_len (l : List Int) : (setI l).length ≤ l.length := by
  have : (compact (l.mergeSort fun x y => decide (x ≤ y))).length ≤ (l.mergeSort fun x y => decide (x ≤ y)).length := by
    unfold compact compactUpTo
    rw [List.length_map]
    refine Nat.le_trans (List.length_filter_le _ _) ?_
    simp
  show (compact _).length ≤ _
  simpa using this
/-- where a number has its place among ascending ones -/
def placeI : List Int → Int → Nat
  | [], _ => 0
  | x :: r, n => if x < n then placeI r n + 1 else 0
theorem placeI_eq : ∀ {l : List Int} {n : Int} {k : Nat}, (∀ i x, i < k → l[i]? = some x → x < n) → k ≤ l.length → (∀ x, l[k]? = some x → n ≤ x) → placeI l n = k
  | [], n, k, _, h2, _ => by simp only [List.length_nil, Nat.le_zero] at h2; subst h2; rfl
  | x :: r, n, 0, _, _, h3 => by
    have := h3 x rfl
    rw [placeI, if_neg (by omega)]
  | x :: r, n, k + 1, h1, h2, h3 => by
    rw [placeI, if_pos (h1 0 x (by omega) rfl), placeI_eq (k := k) (fun i y hi hy => h1 (i + 1) y (by omega) (by simpa using hy)) (by simpa using h2) (fun y hy => h3 y (by simpa using hy))]
theorem placeI_spec : ∀ (l : List Int) (n : Int), (∀ x ∈ l.take (placeI l n), x < n) ∧ placeI l n ≤ l.length ∧ ∀ x, l[placeI l n]? = some x → n ≤ x
  | [], n => by simp [placeI]
  | x :: r, n => by
    have ⟨h1, h2, h3⟩ := placeI_spec r n
    rw [placeI]
    split
    · refine ⟨fun y hy => ?_, by simpa using h2, fun y hy => h3 y (by simpa using hy)⟩
      rw [List.take_succ_cons, List.mem_cons] at hy
      rcases hy with rfl | hy
      · assumption
      · exact h1 y hy
    · refine ⟨by simp, by simp, fun y hy => ?_⟩
      simp at hy; omega
/-- a number among ascending ones -/
def intoI (l : List Int) (n : Int) : List Int := if l[placeI l n]? = some n then l else l.take (placeI l n) ++ n :: l.drop (placeI l n)
theorem intoI_spec {l : List Int} (hl : Asc l) (n : Int) : Asc (intoI l n) ∧ ∀ x, x ∈ intoI l n ↔ x ∈ l ∨ x = n := by
  have ⟨h1, h2, h3⟩ := placeI_spec l n
  unfold intoI
  split
  · rename_i h
    refine ⟨hl, fun x => ⟨.inl, ?_⟩⟩
    rintro (h4 | rfl)
    · exact h4
    · exact List.mem_of_getElem? h
  · rename_i h
    generalize placeI l n = k at *
    have hd : ∀ x ∈ l.drop k, n < x := fun x hx => by
      obtain ⟨i, hi, rfl⟩ := List.getElem_of_mem hx
      rw [List.length_drop] at hi
      rw [List.getElem_drop]
      have h5 := h3 l[k] (List.getElem?_eq_getElem (by omega))
      have h6 : l[k] ≠ n := fun e => h (by rw [List.getElem?_eq_getElem (by omega), e])
      by_cases e : i = 0
      · subst e; simp only [Nat.add_zero]; omega
      · have := List.pairwise_iff_getElem.1 hl k (k + i) (by omega) (by omega) (by omega)
        omega
    have hl2 := hl
    rw [← List.take_append_drop k l] at hl2
    have hl2 := List.pairwise_append.1 hl2
    refine ⟨List.pairwise_append.2 ⟨hl2.1, List.pairwise_cons.2 ⟨hd, hl2.2.1⟩, fun a ha b hb => ?_⟩, fun x => ?_⟩
    · rcases List.mem_cons.1 hb with rfl | hb
      · exact h1 a ha
      · exact hl2.2.2 a ha b hb
    · rw [List.mem_append, List.mem_cons]
      have : x ∈ l ↔ x ∈ l.take k ∨ x ∈ l.drop k := by rw [← List.mem_append, List.take_append_drop]
      rw [this]
      constructor
      · rintro (h | h | h) <;> simp [h]
      · rintro ((h | h) | h) <;> simp [h]
theorem intoI_len (l : List Int) (n : Int) : (intoI l n).length ≤ l.length + 1 := by
  unfold intoI
  split
  · omega
  · have := (placeI_spec l n).2.1
    simp; omega
/-- numbers put in, one by one -/
def addI (l m : List Int) : List Int := m.foldl intoI l
theorem addI_spec : ∀ {m l : List Int}, Asc l → Asc (addI l m) ∧ ∀ x, x ∈ addI l m ↔ x ∈ l ∨ x ∈ m
  | [], l, hl => ⟨hl, fun x => by simp [addI]⟩
  | n :: m, l, hl => by
    have ⟨h1, h2⟩ := intoI_spec hl n
    have ⟨h3, h4⟩ := addI_spec (m := m) h1
    refine ⟨h3, fun x => ?_⟩
    show x ∈ addI (intoI l n) m ↔ _
    rw [h4, h2, List.mem_cons, or_assoc]
theorem addI_nil (m : List Int) : addI [] m = setI m := ((setI_of (addI_spec .nil).1 fun x => by rw [(addI_spec .nil).2]; simp)).symm
theorem addI_app (l m k : List Int) : addI l (m ++ k) = addI (addI l m) k := by simp [addI]
theorem addI_take {l m : List Int} {j : Nat} {x : Int} (h : m[j]? = some x) : addI l (m.take (j + 1)) = intoI (addI l (m.take j)) x := by
  obtain ⟨hj, rfl⟩ := List.getElem?_eq_some_iff.1 h
  rw [List.take_succ_eq_append_getElem hj, addI_app]; rfl
theorem addI_len : ∀ (m l : List Int), (addI l m).length ≤ l.length + m.length
  | [], l => by simp [addI]
  | n :: m, l => by
    have h1 := addI_len m (intoI l n)
    have h2 := intoI_len l n
    show (addI (intoI l n) m).length ≤ _
    simp only [List.length_cons]; omega
/-- the greatest number of a justification -/
abbrev RightI (l : List Int) : Prop := ∀ j, j < l.length → (1 ≤ l[j]! ∧ l[j]! ≤ 64) ∧ (0 < j → l[j - 1]! < l[j]!)
theorem RightI.asc {l : List Int} (h : RightI l) : Asc l := by
  have : ∀ k i, i + k + 1 < l.length → l[i]! < l[i + k + 1]! := fun k => by
    induction k with
    | zero => intro i hi; exact (h (i + 1) hi).2 (by omega)
    | succ k ih =>
      intro i hi
      have h1 := ih i (by omega)
      have h2 := (h (i + (k + 1) + 1) hi).2 (by omega)
      simp only [Nat.add_sub_cancel] at h2
      rw [show i + (k + 1) = i + k + 1 by omega] at h2 ⊢
      omega
  refine List.pairwise_iff_getElem.2 fun i j hi hj hij => ?_
  have := this (j - i - 1) i (by omega)
  rw [show i + (j - i - 1) + 1 = j by omega] at this
  rw [getElem!_pos l i hi, getElem!_pos l j hj] at this
  exact this
theorem RightI.mem {l : List Int} (h : RightI l) : ∀ x ∈ l, 1 ≤ x ∧ x ≤ 64 := fun x hx => by
  obtain ⟨i, hi, rfl⟩ := List.getElem_of_mem hx
  have := (h i hi).1
  rwa [getElem!_pos l i hi] at this
theorem RightI.of {l : List Int} (h : Asc l) (hm : ∀ x ∈ l, 1 ≤ x ∧ x ≤ 64) : RightI l := fun j hj => by
  rw [getElem!_pos l j hj]
  refine ⟨hm _ (List.getElem_mem hj), fun h0 => ?_⟩
  rw [getElem!_pos l (j - 1) (by omega)]
  exact List.pairwise_iff_getElem.1 h (j - 1) j (by omega) hj (by omega)
end Go.CK
