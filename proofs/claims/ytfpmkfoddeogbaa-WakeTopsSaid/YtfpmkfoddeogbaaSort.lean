/-
  SORT AND COMPACT OVER ROWS OF WHOLE NUMBERS: the shelf's contracts in the words of the machine. By an AI agent.
-/
import Derived.Test.YtfpmkfoddeogbaaAmRw
import Derived.Lib.RowBridge
import Derived.Test.YtfpmkfoddeogbaaLay
namespace Go.AM
open Go.RowKit Go.CK Go.Proofs Go.Sort

theorem cells_int (l : List Int) : cellsOf (l.map (AV.int .i64)) = l.map (AV.int .i64) := by
  induction l with
  | nil => rfl
  | cons x l ih => rw [List.map_cons, cellsOf, ih]; rfl
theorem set_same {α : Type} {l : List α} {b : Nat} {x : α} (h : l[b]? = some x) : l.set b x = l := by
  obtain ⟨hb, rfl⟩ := List.getElem?_eq_some_iff.1 h
  exact List.set_getElem_self hb

section
variable {E : Entry} {G : Gh} {s : St} {a : Act} {w : World}
/-- what a row of numbers holds -/
theorem RS.ints (h : RS E G s a w) {b k : Nat} {l : List Int} (hb : s.bs[b]? = some (rowF (AV.int .i64) 1 k l)) (hk : l.length ≤ k) (h0 : k ≠ 0) : ∃ (vs : Array Value) (T : TypeId), boxCells s.bs b = some (l.map (AV.int .i64) ++ List.replicate (k - l.length) AV.top) ∧ w.heap[G.σ b]? = some (.cells vs T (0, 0)) ∧ k ≤ vs.size ∧
    (∀ j (hj : j < l.length), vs[j]? = some (.int .i64 l[j])) ∧ (∀ j, j < k → ∀ u, vs[j]? = some u → u.oneCell' = true) ∧ Holds (Value.int .i64) w (G.σ b) 0 l.toArray := by
  have hlen : (l.map (AV.int .i64) ++ List.replicate (k - l.length) AV.top).length = k := by simp; omega
  have hrow : s.bs[b]? = some (.row (l.map (AV.int .i64) ++ List.replicate (k - l.length) AV.top)) := by
    rw [hb]
    simp only [rowF, cells_int, Nat.mul_one]
  have hbc : boxCells s.bs b = some (l.map (AV.int .i64) ++ List.replicate (k - l.length) AV.top) := rowAt_cells (rowAt_row hrow) (fun e => by
    have := congrArg List.length e
    rw [hlen, List.length_nil] at this
    exact h0 this)
  obtain ⟨vs, T, h1, h2⟩ := h.box b _ hbc
  rw [hlen] at h2
  have hcell : ∀ j u, vs[j]? = some u → w.cell? ⟨G.σ b, j, none⟩ = some u := fun j u hu => by
    simp only [World.cell?, h1]
    simpa using hu
  have hint : ∀ j (hj : j < l.length), vs[j]? = some (.int .i64 l[j]) := fun j hj => by
    have hjv : vs[j]? = some (vs[j]'(by omega)) := Array.getElem?_eq_getElem _
    obtain ⟨u, h3, _, h4⟩ := h.bval hbc j (by rw [hlen]; omega)
    rw [hcell j _ hjv] at h3
    cases h3
    rw [List.getElem_append_left (by simpa using hj), List.getElem_map] at h4
    rw [hjv, h4.inv_int]
  refine ⟨vs, T, hbc, h1, h2, hint, fun j hj u hu => ?_, fun j hj => ?_⟩
  · obtain ⟨u', h3, h4, _⟩ := h.bval hbc j (by rw [hlen]; exact hj)
    rw [hcell j u hu] at h3
    cases h3; exact h4
  · have hj' : j < l.length := by simpa using hj
    refine ⟨?_, ?_⟩
    · rw [Nat.zero_add, hcell j _ (hint j hj')]
      simp [hj']
    · simp only [World.frozen?, h1]
      simp
/-- numbers are put into a row -/
theorem RS.putInts (h : RS E G s a w) {b k : Nat} {l d l2 : List Int} (hb : s.bs[b]? = some (rowF (AV.int .i64) 1 k l)) (hk : l.length ≤ k) (h0 : k ≠ 0) (hd : d.length = l.length) (h2 : l2.length ≤ d.length) (he : ∀ j (h1 : j < l2.length) (h2 : j < d.length), d[j] = l2[j]) (q : Nat) (os : Array Obj) :
    RS E G ⟨s.env, s.bs.set b (rowF (AV.int .i64) 1 k l2), s.lo⟩ a (Go.Sort.grow (putRow (Value.int .i64) (Sort.ahead w q) (G.σ b) 0 d.toArray) os) := by
  obtain ⟨vs, T, hbc, h1, hsz, hint, hone, _⟩ := h.ints hb hk h0
  have hlt : G.σ b < w.heap.size := (Array.getElem?_eq_some_iff.1 h1).1
  have hrow : rowF (AV.int .i64) 1 k l2 = .row (l2.map (AV.int .i64) ++ List.replicate (k - l2.length) AV.top) := by simp only [rowF, cells_int, Nat.mul_one]
  have hsize : (putRow (Value.int .i64) (Sort.ahead w q) (G.σ b) 0 d.toArray).heap.size = w.heap.size := by rw [size_putRow]; rfl
  have hsame : (putRow (Value.int .i64) (Sort.ahead w q) (G.σ b) 0 d.toArray).heap[G.σ b]? = some (.cells (putCells (Value.int .i64) 0 d.toArray vs) T (0, 0)) := by
    simp only [putRow, mapBlock, Sort.ahead, Array.getElem?_modify, if_true, h1]; rfl
  have hoth : ∀ B, B ≠ G.σ b → (putRow (Value.int .i64) (Sort.ahead w q) (G.σ b) 0 d.toArray).heap[B]? = w.heap[B]? := fun B hB => by
    simp only [putRow, mapBlock, Sort.ahead, Array.getElem?_modify, if_neg (Ne.symm hB)]
  rw [hrow]
  refine h.reCells hbc (vs' := putCells (Value.int .i64) 0 d.toArray vs) (T := T) ?_ ?_ ?_ rfl rfl rfl ?_ (fun B hB hne => ?_) fun j hj v hv => ?_
  · rw [heap_grow_old _ _ (by rw [hsize]; exact hlt)]; exact hsame
  · simp [putCells]; omega
  · intro e
    have := congrArg List.length e
    rw [List.length_append, List.length_map, List.length_replicate, List.length_nil] at this
    omega
  · rw [size_grow, hsize]; omega
  · rw [heap_grow_old _ _ (by rw [hsize]; exact hB)]; exact hoth B hne
  · simp only [List.length_append, List.length_map, List.length_replicate] at hj
    simp only [putCells, Array.getElem?_mapIdx, Nat.zero_le, true_and, Nat.zero_add, List.size_toArray, Nat.sub_zero] at hv
    by_cases hj2 : j < l2.length
    · rw [List.getElem_append_left (by simpa using hj2), List.getElem_map]
      cases hvs : vs[j]? with
      | none => rw [hvs] at hv; cases hv
      | some u =>
        rw [hvs] at hv
        simp only [Option.map_some, if_pos (show j < d.length by omega), Option.some.injEq] at hv
        subst hv
        refine ⟨rfl, ?_⟩
        rw [getElem!_pos d.toArray j (by simpa using (show j < d.length by omega))]
        rw [List.getElem_toArray, he j hj2 (by omega)]
        exact .flat (.int _ _)
    · rw [List.getElem_append_right (by simpa using hj2), List.getElem_replicate]
      refine ⟨?_, .flat (.top _)⟩
      cases hvs : vs[j]? with
      | none => rw [hvs] at hv; cases hv
      | some u =>
        rw [hvs] at hv
        simp only [Option.map_some, Option.some.injEq] at hv
        subst hv
        split
        · rfl
        · exact hone j (by omega) u hvs

end
variable {P : Program}
theorem tupNil {M : Hp} {σ : Nat → Nat} {n : Nat} : RV M σ n (.tup []) (.tuple #[]) := .tup [] [] rfl fun j h => by cases h

/-- slices.Sort at []int -/
theorem sortI {bs : List Box} {b k : Nat} {l : List Int} (hb : bs[b]? = some (rowF (AV.int .i64) 1 k l)) : AM.Sem Try.prog 74 [.bsl b l.length k] bs fun r bs' => r = .tup [] ∧ bs' = bs.set b (rowF (AV.int .i64) 1 k (l.mergeSort fun x y => decide (x ≤ y))) := by
  intro E G a0 w args lo hs hlen hav
  obtain ⟨v, rfl⟩ : ∃ v, args = [v] := by
    cases args with
    | nil => cases hlen
    | cons v r => cases r with
      | nil => exact ⟨v, rfl⟩
      | cons _ _ => simp at hlen
  have hv := hav 0 (by simp) v rfl
  simp only [List.getElem_cons_zero] at hv
  obtain ⟨ad, rfl, hbl, hmk, hml, had⟩ := hv.inv_bsl
  have h0 := hs.reAct (callE G bs w 1) ⟨#[.tuple #[]], []⟩ (Fr.refl _ _ _) rfl bs.length rfl (Nat.le_refl _) (fun _ _ => rfl) (fun B hB => .inl hB) rfl
  by_cases hl : l = []
  · subst hl
    refine (Any.slices_Sort_int_none Try.laysSort ad k w).mono ?_
    rintro e w' ⟨rfl, rfl⟩
    refine ⟨_, _, _, { G with cl := noSlots G.cl }, rfl, ⟨rfl, rfl⟩, ?_⟩
    rw [show (([] : List Int).mergeSort fun x y => decide (x ≤ y)) = [] from by simp, set_same hb]
    exact h0.put (k := 0) Nat.zero_lt_one tupNil
  · have hpos : 0 < l.length := List.length_pos_iff.2 hl
    have hk0 : k ≠ 0 := by omega
    obtain ⟨vs, T, hbc, h1, _, _, _, hH⟩ := hs.ints (s := ⟨[], bs, lo⟩) hb hmk hk0
    rw [had hk0]
    refine (Any.slices_Sort_int Try.laysSort (G.σ b) 0 k l w hH (Array.getElem?_eq_some_iff.1 h1).1 (by unfold glim at hml; omega)).mono ?_
    rintro e w' ⟨rfl, n, os, rfl⟩
    refine ⟨_, _, _, { G with cl := noSlots G.cl }, rfl, ⟨rfl, rfl⟩, ?_⟩
    have h2 := h0.putInts (b := b) (k := k) (l := l) (d := l.mergeSort fun x y => decide (x ≤ y)) (l2 := l.mergeSort fun x y => decide (x ≤ y)) hb hmk hk0 (by simp) (Nat.le_refl _) (fun _ _ _ => rfl) n os
    exact h2.put (k := 0) Nat.zero_lt_one tupNil
/-- slices.Compact at []int -/
theorem compactI {bs : List Box} {b k : Nat} {l : List Int} (hb : bs[b]? = some (rowF (AV.int .i64) 1 k l)) : AM.Sem Try.prog 75 [.bsl b l.length k] bs fun r bs' => r = .bsl b (Lib.compact l).length k ∧ bs' = bs.set b (rowF (AV.int .i64) 1 k (Lib.compact l)) := by
  intro E G a0 w args lo hs hlen hav
  obtain ⟨v, rfl⟩ : ∃ v, args = [v] := by
    cases args with
    | nil => cases hlen
    | cons v r => cases r with
      | nil => exact ⟨v, rfl⟩
      | cons _ _ => simp at hlen
  have hv := hav 0 (by simp) v rfl
  simp only [List.getElem_cons_zero] at hv
  obtain ⟨ad, rfl, hbl, hmk, hml, had⟩ := hv.inv_bsl
  by_cases hl : l = []
  · subst hl
    have h0 := hs.reAct (callE G bs w 1) ⟨#[.slice ad 0 k], []⟩ (Fr.refl _ _ _) rfl bs.length rfl (Nat.le_refl _) (fun _ _ => rfl) (fun B hB => .inl hB) rfl
    refine (Any.slices_Compact_int_empty Try.laysCompact ad k w).mono ?_
    rintro e w' ⟨rfl, rfl⟩
    refine ⟨_, _, _, { G with cl := noSlots G.cl }, rfl, ⟨rfl, rfl⟩, ?_⟩
    rw [show Lib.compact ([] : List Int) = [] from rfl, set_same hb]
    exact h0.put (k := 0) Nat.zero_lt_one hv
  · have hpos : 0 < l.length := List.length_pos_iff.2 hl
    have hk0 : k ≠ 0 := by omega
    obtain ⟨vs, T, hbc, h1, _, _, _, hH⟩ := hs.ints (s := ⟨[], bs, lo⟩) hb hmk hk0
    have hcl : (Lib.compact l).length ≤ l.length := Lib.compact_length_le l
    rw [had hk0]
    refine (Any.slices_Compact_int Try.laysCompact (G.σ b) 0 k l w hH (by unfold glim at hml; omega) hmk).mono ?_
    rintro e w' ⟨rfl, n, rfl⟩
    have h0 := hs.reAct (callE G bs w 1) ⟨#[.slice (some ⟨G.σ b, 0, none⟩) (Lib.compact l).length k], []⟩ (Fr.refl _ _ _) rfl bs.length rfl (Nat.le_refl _) (fun _ _ => rfl) (fun B hB => .inl hB) rfl
    refine ⟨_, _, _, { G with cl := noSlots G.cl }, rfl, ⟨rfl, rfl⟩, ?_⟩
    have h2 := h0.putInts (b := b) (k := k) (l := l) (d := Lib.compact l ++ List.replicate (l.length - (Lib.compact l).length) 0) (l2 := Lib.compact l) hb hmk hk0 (by simp; omega) (by simp) (fun j h3 h4 => by rw [List.getElem_append_left h3]) n #[]
    rw [grow_empty] at h2
    refine h2.put (k := 0) Nat.zero_lt_one ?_
    have := RV.bsl (M := G.M) (σ := G.σ) (n := bs.length) b (Lib.compact l).length k (some ⟨G.σ b, 0, none⟩) hbl (by omega) (by omega) (fun _ => rfl)
    simpa using this
end Go.AM
