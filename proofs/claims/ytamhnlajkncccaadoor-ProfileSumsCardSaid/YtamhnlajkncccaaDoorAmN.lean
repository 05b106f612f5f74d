/-
  THE ABSTRACT MACHINE, 5: rows: new ones, appended to, made. No function of the program is named here. By an AI agent.
-/
import Derived.Test.YtamhnlajkncccaaDoorAmM
set_option linter.unusedSimpArgs false
set_option linter.unusedVariables false
namespace Go.AM
open Go.CK Go.RowKit

def addCells (M : Hp) (B off : Nat) (us : List Value) : Hp := fun b o => if b = B ∧ off ≤ o ∧ o < off + us.length then us[o - off]? else M b o

theorem addCells_at {M : Hp} {B off : Nat} {us : List Value} {j : Nat} {u : Value} (h : us[j]? = some u) : addCells M B off us B (off + j) = some u := by
  have hj : j < us.length := by
    rcases Nat.lt_or_ge j us.length with h1 | h1
    · exact h1
    · rw [List.getElem?_eq_none h1] at h; cases h
  unfold addCells
  rw [if_pos ⟨rfl, by omega, by omega⟩, show off + j - off = j by omega]
  exact h
theorem addCells_le {M : Hp} {B off : Nat} {us : List Value} (h : ∀ o, off ≤ o → M B o = none) : M.le (addCells M B off us) := fun b o v hv => by
  simp only [addCells]
  rw [if_neg]
  · exact hv
  · rintro ⟨rfl, h1, _⟩
    rw [h o h1] at hv; cases hv
theorem addCells_ne {M : Hp} {B off : Nat} {us : List Value} {b : Nat} (h : b ≠ B) (o : Nat) : addCells M B off us b o = M b o := by
  simp only [addCells]; rw [if_neg (fun e => h e.1)]
theorem addCells_inv {M : Hp} {B off : Nat} {us : List Value} {b o : Nat} {v : Value} (h : addCells M B off us b o = some v) : (b = B ∧ ∃ j, o = off + j ∧ us[j]? = some v) ∨ M b o = some v := by
  simp only [addCells] at h
  split at h
  · rename_i hc
    exact .inl ⟨hc.1, o - off, by omega, h⟩
  · exact .inr h

/-- us: the cells of the elements l, sz each -/
def RowOf (M : Hp) (sz : Nat) (l : List AV) (us : List Value) : Prop :=
  us.length = l.length * sz ∧ ∀ i (h : i < l.length), l[i].cells.length = sz ∧ ∀ j (hj : j < l[i].cells.length), ∃ u, us[i * sz + j]? = some u ∧ u.oneCell' = true ∧ FV M (l[i].cells[j]) u

theorem RowOf.mono {M M' : Hp} (hM : M.le M') {sz : Nat} {l : List AV} {us : List Value} (h : RowOf M sz l us) : RowOf M' sz l us :=
  ⟨h.1, fun i hi => ⟨(h.2 i hi).1, fun j hj => let ⟨u, h1, h2, h3⟩ := (h.2 i hi).2 j hj; ⟨u, h1, h2, h3.mono hM⟩⟩⟩
theorem RowOf.nil (M : Hp) (sz : Nat) : RowOf M sz [] [] := ⟨by simp, fun i hi => by cases hi⟩
theorem RowOf.append {M : Hp} {sz : Nat} {l l2 : List AV} {us us2 : List Value} (h : RowOf M sz l us) (h2 : RowOf M sz l2 us2) : RowOf M sz (l ++ l2) (us ++ us2) := by
  refine ⟨by rw [List.length_append, List.length_append, h.1, h2.1, Nat.add_mul], fun i hi => ?_⟩
  by_cases hlt : i < l.length
  · have hmul : (i + 1) * sz ≤ l.length * sz := Nat.mul_le_mul_right _ hlt
    rw [Nat.add_mul, Nat.one_mul] at hmul
    simp only [List.getElem_append_left hlt]
    obtain ⟨a1, a2⟩ := h.2 i hlt
    refine ⟨a1, fun j hj => ?_⟩
    obtain ⟨u, b1, b2, b3⟩ := a2 j hj
    exact ⟨u, by rw [List.getElem?_append_left (by rw [h.1]; omega)]; exact b1, b2, b3⟩
  · obtain ⟨k, rfl⟩ : ∃ k, i = l.length + k := ⟨i - l.length, by omega⟩
    have hk : k < l2.length := by simp at hi; omega
    have he : (l ++ l2)[l.length + k]'hi = l2[k] := by
      rw [List.getElem_append_right (by omega)]
      simp
    obtain ⟨a1, a2⟩ := h2.2 k hk
    rw [he]
    refine ⟨a1, fun j hj => ?_⟩
    obtain ⟨u, b1, b2, b3⟩ := a2 j hj
    refine ⟨u, ?_, b2, b3⟩
    rw [Nat.add_mul, ← h.1, List.getElem?_append_right (by omega), show us.length + k * sz + j - us.length = k * sz + j by omega]
    exact b1
theorem RowOf.elems {M M' : Hp} (hM : M.le M') {sz B off : Nat} {l : List AV} {us : List Value} (h : RowOf M sz l us) (hu : ∀ j u, us[j]? = some u → M' B (off + j) = some u) : Elems M' B off sz l := fun i hi => by
  obtain ⟨a1, a2⟩ := h.2 i hi
  refine ⟨a1, fun j hj => ?_⟩
  obtain ⟨u, b1, b2, b3⟩ := a2 j hj
  exact ⟨u, by rw [Nat.add_assoc]; exact hu _ _ b1, b2, b3.mono hM⟩
theorem Elems.rowOf {M : Hp} {B off sz : Nat} {l : List AV} (h : Elems M B off sz l) : ∃ us, RowOf M sz l us ∧ ∀ j u, us[j]? = some u → M B (off + j) = some u := by
  have hget : ∀ o, o < l.length * sz → ∃ u, M B (off + o) = some u := fun o ho => by
    have hsz : 0 < sz := by
      rcases Nat.eq_zero_or_pos sz with h0 | h0
      · subst h0; omega
      · exact h0
    have hi : o / sz < l.length := (Nat.div_lt_iff_lt_mul hsz).2 ho
    have hj := Nat.mod_lt o hsz
    obtain ⟨a1, a2⟩ := h _ hi
    obtain ⟨u, b1, _⟩ := a2 (o % sz) (by omega)
    refine ⟨u, ?_⟩
    rw [← b1, Nat.add_assoc]
    congr 1
    have := Nat.div_add_mod o sz
    rw [Nat.mul_comm] at this
    omega
  refine ⟨(List.range (l.length * sz)).map fun o => (M B (off + o)).getD undef, ⟨by simp, fun i hi => ⟨(h i hi).1, fun j hj => ?_⟩⟩, fun j u hu => ?_⟩
  · obtain ⟨a1, a2⟩ := h i hi
    obtain ⟨u, b1, b2, b3⟩ := a2 j hj
    have hmul : (i + 1) * sz ≤ l.length * sz := Nat.mul_le_mul_right _ hi
    rw [Nat.add_mul, Nat.one_mul] at hmul
    refine ⟨u, ?_, b2, b3⟩
    rw [Nat.add_assoc] at b1
    simp [List.getElem?_range (show i * sz + j < l.length * sz by omega), b1]
  · have hj : j < l.length * sz := by
      rcases Nat.lt_or_ge j (l.length * sz) with h1 | h1
      · exact h1
      · rw [List.getElem?_eq_none (by simpa using h1)] at hu; cases hu
    obtain ⟨u', hu'⟩ := hget j hj
    simp [hj, hu'] at hu
    rw [hu', hu]

section
variable {E : Entry} {G : Gh} {s : St} {a : Act} {w : World} {P : Program}

theorem RS.noM (h : RS E G s a w) (o : Nat) : G.M w.heap.size o = none := by
  cases hq : G.M w.heap.size o with
  | none => rfl
  | some v => exact absurd (Hp.lt h.ok hq) (by omega)

/-- a new block whose first cells stay as they are -/
theorem RS.newRow (h : RS E G s a w) (vs : Array Value) (T : TypeId) (us : List Value) (hp : ∀ (j : Nat) u, us[j]? = some u → vs[j]? = some u) :
    RS E { G with M := addCells G.M w.heap.size 0 us } s a (w.alloc (.cells vs T)) := by
  refine h.grow ⟨rfl, rfl, rfl, by simp, addCells_le fun o _ => h.noM o, fun B hB _ => Below.heap_alloc _ _ _ hB, fun B hB _ o => addCells_ne (by omega) o⟩ fun b o v hv => ?_
  rcases addCells_inv hv with ⟨rfl, j, rfl, hj⟩ | hv
  · have hnew : (w.alloc (.cells vs T)).heap[w.heap.size]? = some (.cells vs T (0, 0)) := heap_alloc_new w _
    simp only [Hp.of, World.cell?, hnew]
    simpa using hp j v hj
  · exact (Ext.refl w).alloc _ |>.cell (h.ok _ _ _ hv)

/-- block B has room behind its n elements; nobody but p was said to own it, and p does so no longer -/
structure Spare (E : Entry) (G : Gh) (s : St) (w : World) (B z n k : Nat) (p : Pl) : Prop where
  row : Row E.FP E.w G.M w B z n k
  only : ∀ q, G.cl q = some B → q = p
  box : ∀ b cs, boxCells s.bs b = some cs → G.σ b ≠ B
  lt : B < w.heap.size
  not : ∀ z l, s.at p ≠ some (.sl (.own z) l)

theorem RS.own_of (h : RS E G s a w) {d p : Pl} {o : Cap} {l : List AV} {B z k : Nat} (hd : s.at d = some (.sl o l)) (hv : valAt G.σ a w d = .slice (some ⟨B, 0, none⟩) l.length k) (hs : Spare E G s w B z l.length k p) (hz : ∀ y ∈ l, y.cells.length = z) :
    RS E { G with cl := fun r => if r = d then some B else if r = p then none else G.cl r } (s.upd d (.sl (.own z) l)) a w := by
  have hvd := h.val d _ hd
  refine ⟨h.fr, h.ok, h.nt, fun r u hu => ?_, fun b j u hu => ?_, fun b cs hb => ?_, fun b cs hb => ?_, fun b b' cs cs' hb hb' e => ?_, fun r z' l' hr => ?_, fun r r' B' hr hr' => ?_, fun r B' hB' b cs hb => ?_, fun r B' hB' => ?_, (St.upd_lo s d _).trans h.lo, by rw [St.upd_len]; exact h.len, h.sig, h.sp.step (Hp.le_refl _) (fun _ _ => rfl) (fun _ _ k => St.upd_loop k) (fun _ _ k _ => k) (fun B' o ho hk r k => by
    simp only at k
    by_cases e1 : r = d
    · rw [if_pos e1] at k; cases k
      obtain ⟨vs, T, hc, _⟩ := hs.row.cells
      rw [hc] at ho; cases ho; cases hk
    · rw [if_neg e1] at k
      by_cases e2 : r = p
      · rw [if_pos e2] at k; cases k
      · rw [if_neg e2] at k; exact ⟨r, k⟩) (fun _ k => k)⟩
  · rw [St.at_upd s hd] at hu
    rw [St.upd_len]
    by_cases hr : r = d
    · rw [if_pos hr] at hu; cases hu
      rw [hr]
      have := hvd.norm1
      rw [deown_norm1] at this; exact this
    · rw [if_neg hr] at hu; exact h.val r u hu
  · rw [St.at_upd s hd] at hu
    by_cases hr : Pl.bx b j = d
    · exact h.one b j _ (hr ▸ hd)
    · rw [if_neg hr] at hu; exact h.one b j u hu
  · obtain ⟨ds, h1, h2⟩ := s.upd_box d _ b cs hb
    obtain ⟨vs, T, h3, h4⟩ := h.box b ds h1
    exact ⟨vs, T, h3, Nat.le_trans (by omega) h4⟩
  · obtain ⟨ds, h1, h2⟩ := s.upd_box d _ b cs hb
    exact h.bmem b ds h1
  · obtain ⟨ds, h1, _⟩ := s.upd_box d _ b cs hb
    obtain ⟨ds', h1', _⟩ := s.upd_box d _ b' cs' hb'
    exact h.inj b b' ds ds' h1 h1' e
  · rw [St.at_upd s hd] at hr
    by_cases hrd : r = d
    · rw [if_pos hrd] at hr; cases hr
      exact ⟨_, k, by rw [hrd]; exact hv, hz, .inr ⟨B, by simp [hrd], rfl, hs.row⟩⟩
    · rw [if_neg hrd] at hr
      obtain ⟨ad, k', h2, hz', h3⟩ := h.own r z' l' hr
      refine ⟨ad, k', h2, hz', ?_⟩
      rcases h3 with h3 | ⟨B', hB', h4, h5⟩
      · exact .inl h3
      · refine .inr ⟨B', ?_, h4, h5⟩
        have : r ≠ p := fun e => hs.not _ _ (e ▸ hr)
        simp only [hrd, this, if_false]; exact hB'
  · simp only at hr hr'
    by_cases hrd : r = d
    · rw [if_pos hrd] at hr
      by_cases hrd' : r' = d
      · rw [hrd, hrd']
      · rw [if_neg hrd'] at hr'
        by_cases hrp' : r' = p
        · rw [if_pos hrp'] at hr'; cases hr'
        · rw [if_neg hrp'] at hr'
          cases hr
          exact absurd (hs.only _ hr') hrp'
    · rw [if_neg hrd] at hr
      by_cases hrp : r = p
      · rw [if_pos hrp] at hr; cases hr
      · rw [if_neg hrp] at hr
        by_cases hrd' : r' = d
        · rw [if_pos hrd'] at hr'
          cases hr'
          exact absurd (hs.only _ hr) hrp
        · rw [if_neg hrd'] at hr'
          by_cases hrp' : r' = p
          · rw [if_pos hrp'] at hr'; cases hr'
          · rw [if_neg hrp'] at hr'; exact h.clinj _ _ B' hr hr'
  · obtain ⟨ds, h1, _⟩ := s.upd_box d _ b cs hb
    simp only at hB'
    by_cases hrd : r = d
    · rw [if_pos hrd] at hB'; cases hB'; exact hs.box b ds h1
    · rw [if_neg hrd] at hB'
      by_cases hrp : r = p
      · rw [if_pos hrp] at hB'; cases hB'
      · rw [if_neg hrp] at hB'; exact h.clbox r B' hB' b ds h1
  · simp only at hB'
    by_cases hrd : r = d
    · rw [if_pos hrd] at hB'; cases hB'; exact ⟨hs.lt, hs.row.mine⟩
    · rw [if_neg hrd] at hB'
      by_cases hrp : r = p
      · rw [if_pos hrp] at hB'; cases hB'
      · rw [if_neg hrp] at hB'; exact h.cllt r B' hB'

/-- the spare cells of a row are filled -/
theorem RS.fill (h : RS E G s a w) {B z n k : Nat} {p : Pl} (hs : Spare E G s w B z n k p) {m : Nat} (us : List Value) (hu : us.length = m * z) (hmk : n + m ≤ k) (h1 : ∀ u ∈ us, u.oneCell' = true) :
    ∃ w', (storeCells (⟨B, n * z, none⟩ : Addr) us).run P w = .ok () w' ∧ RS E { G with M := addCells G.M B (n * z) us } s a w' ∧ w'.heap.size = w.heap.size ∧
      (n + m < k → Spare E { G with M := addCells G.M B (n * z) us } s w' B z (n + m) k p) := by
  obtain ⟨vs, T, hc, hvs⟩ := hs.row.cells
  have hfit : n * z + us.length ≤ vs.size := by
    rw [hu, hvs, ← Nat.add_mul]; exact Nat.mul_le_mul_right _ hmk
  have hrun := run_storeCells_at P B (n * z) T us 0 vs w hc (by simpa using hfit) h1
  simp only [Nat.add_zero] at hrun
  have hnew := setRow_heap w B vs (vs.toList.take (n * z) ++ us ++ vs.toList.drop (n * z + us.length)).toArray T (0, 0) hc
  have hother : ∀ k, k ≠ B → (w.setRow B (vs.toList.take (n * z) ++ us ++ vs.toList.drop (n * z + us.length)).toArray).heap[k]? = w.heap[k]? := fun k hk => by
    simp only [World.setRow, Array.getElem?_modify]; rw [if_neg (Ne.symm hk)]
  have hsize : (w.setRow B (vs.toList.take (n * z) ++ us ++ vs.toList.drop (n * z + us.length)).toArray).heap.size = w.heap.size := by simp [World.setRow]
  have hlen : (vs.toList.take (n * z) ++ us ++ vs.toList.drop (n * z + us.length)).length = vs.size := by
    simp; omega
  have hin : ∀ (j : Nat) u, us[j]? = some u → (vs.toList.take (n * z) ++ us ++ vs.toList.drop (n * z + us.length))[n * z + j]? = some u := fun j u hj => by
    have hjl : j < us.length := by
      rcases Nat.lt_or_ge j us.length with h1 | h1
      · exact h1
      · rw [List.getElem?_eq_none h1] at hj; cases hj
    rw [List.append_assoc, List.getElem?_append_right (by simp; omega)]
    simp only [List.length_take, Array.length_toList]
    rw [show n * z + j - min (n * z) vs.size = j by omega, List.getElem?_append_left hjl]; exact hj
  have hout : ∀ (o : Nat), o < n * z → (vs.toList.take (n * z) ++ us ++ vs.toList.drop (n * z + us.length))[o]? = vs[o]? := fun o ho => by
    rw [List.append_assoc, List.getElem?_append_left (by simp; omega), List.getElem?_take, if_pos ho, Array.getElem?_toList]
  have hval : ∀ q y, s.at q = some y → valAt G.σ a (w.setRow B (vs.toList.take (n * z) ++ us ++ vs.toList.drop (n * z + us.length)).toArray) q = valAt G.σ a w q := fun q y hq => by
    cases q with
    | sl t => rfl
    | bx b j =>
      simp only [St.at] at hq
      cases hb : boxCells s.bs b with
      | none => rw [hb] at hq; cases hq
      | some cs => simp only [valAt]; rw [cell_heap (hother _ (hs.box b cs hb))]
  have hfree := hs.row.free
  have hMle : G.M.le (addCells G.M B (n * z) us) := addCells_le hfree
  refine ⟨_, hrun, ?_, hsize, fun hlt => ?_⟩
  · refine ⟨?_, fun b o v hv => ?_, h.nt, fun q y hq => ?_, fun b j y hq => ?_, fun b cs hb => ?_, fun b cs hb => ?_, h.inj, fun q z' l' hq => ?_, h.clinj, h.clbox, fun q B' hB' => by rw [hsize]; exact h.cllt q B' hB', h.lo, h.len, h.sig, h.sp.step hMle (fun _ _ => rfl) (fun _ _ k => k) (fun B' o ho hk => by rw [hother B' (fun e => by subst e; rw [hc] at ho; cases ho; cases hk)]; exact ho) (fun _ _ _ _ p k => ⟨p, k⟩) (fun _ k => k)⟩
    · refine ⟨h.fr.os, h.fr.tape, h.fr.output, by rw [hsize]; exact h.fr.size, Hp.le_trans h.fr.le hMle, fun B' hB' hn => ?_, fun B' hB' hn o => ?_⟩
      · have : B' ≠ B := fun e => by
          subst e
          rcases hs.row.mine with h1 | h1
          · exact hn h1
          · omega
        rw [hother B' this]; exact h.fr.heap B' hB' hn
      · have : B' ≠ B := fun e => by
          subst e
          rcases hs.row.mine with h1 | h1
          · exact hn h1
          · omega
        exact (addCells_ne this o).trans (h.fr.mem B' hB' hn o)
    · rcases addCells_inv hv with ⟨rfl, j, rfl, hj⟩ | hv2
      · simp only [Hp.of, World.cell?, hnew]
        simp only [Option.isSome_none, Bool.false_eq_true, if_false, List.getElem?_toArray]
        exact hin j v hj
      · have := h.ok _ _ _ hv2
        by_cases e : b = B
        · subst e
          have ho : o < n * z := by
            rcases Nat.lt_or_ge o (n * z) with h1 | h1
            · exact h1
            · rw [hfree o h1] at hv2; cases hv2
          simp only [Hp.of, World.cell?, hc] at this
          simp only [Hp.of, World.cell?, hnew]
          simp only [Option.isSome_none, Bool.false_eq_true, if_false, List.getElem?_toArray] at this ⊢
          rw [hout o ho]; exact this
        · simp only [Hp.of]
          rw [cell_heap (hother b e)]; exact this
    · rw [hval q y hq]; exact (h.val q y hq).mono hMle (Nat.le_refl _) (fun _ _ => rfl)
    · rw [hval _ y hq]; exact h.one b j y hq
    · obtain ⟨us', T', h2, h3⟩ := h.box b cs hb
      exact ⟨us', T', by rw [hother _ (hs.box b cs hb)]; exact h2, h3⟩
    · obtain ⟨h2, h3⟩ := h.bmem b cs hb
      exact ⟨fun o => (addCells_ne (hs.box b cs hb) o).trans (h2 o), h3⟩
    · obtain ⟨ad, k', h2, hz', h3⟩ := h.own q z' l' hq
      refine ⟨ad, k', by rw [hval q _ hq]; exact h2, hz', ?_⟩
      rcases h3 with h3 | ⟨B', hB', h4, h5⟩
      · exact .inl h3
      · have hne : B' ≠ B := fun e => by
          subst e
          have := hs.only q hB'
          subst this
          exact hs.not _ _ hq
        obtain ⟨us', T', h6, h7⟩ := h5.cells
        exact .inr ⟨B', hB', h4, h5.lt, ⟨us', T', by rw [hother B' hne]; exact h6, h7⟩, fun o ho => (addCells_ne hne o).trans (h5.free o ho), h5.mine⟩
  · refine ⟨⟨hlt, ⟨_, T, hnew, by rw [List.size_toArray, hlen, hvs]⟩, fun o ho => ?_, hs.row.mine⟩, hs.only, hs.box, by rw [hsize]; exact hs.lt, hs.not⟩
    simp only [addCells]
    rw [if_neg (fun e => by have := e.2.2; rw [hu, ← Nat.add_mul] at this; omega)]
    exact hfree o (Nat.le_trans (Nat.mul_le_mul_right _ (Nat.le_add_right _ _)) ho)

/-! ### append -/
/-- what is known of a slice value: its elements, its capacity -/
structure SV (M : Hp) (l : List AV) (sz : Nat) (v : Value) (ad : Option Addr) (k B off : Nat) : Prop where
  eq : v = .slice ad l.length k
  cap : l.length ≤ k
  len : l.length ≤ lim
  at_ : l ≠ [] → ad = some ⟨B, off, none⟩
  el : Elems M B off sz l

theorem RV.sv {M : Hp} {σ : Nat → Nat} {n : Nat} {o : Cap} {l : List AV} {v : Value} (h : RV M σ n (.sl o l) v) {sz : Nat} (hz : ∀ y ∈ l, y.cells.length = sz) : ∃ ad k B off, SV M l sz v ad k B off := by
  obtain ⟨ad, k, B, off, sz', h1, h2, h3, h4, h5, h6, h7⟩ := h.inv_sl
  refine ⟨ad, k, B, off, h1, h3, h4, h6, fun i hi => ?_⟩
  obtain ⟨a1, a2⟩ := h7 i hi
  have := hz _ (List.getElem_mem hi)
  refine ⟨this, ?_⟩
  rw [← this, a1]; exact a2

theorem SV.rv {M : Hp} {σ : Nat → Nat} {n sz : Nat} {o : Cap} {l : List AV} {v : Value} {ad : Option Addr} {k B off : Nat} (h : SV M l sz v ad k B off) (ho : ∀ z, o ≠ .own z) (hf : o = .full → k = l.length) : RV M σ n (.sl o l) v := by
  rw [h.eq]
  exact .flat (.mk_sl ho h.cap h.len hf h.at_ h.el)

/-- the elements of a slice as cells that lie in w -/
theorem SV.row {M : Hp} {l : List AV} {sz : Nat} {v : Value} {ad : Option Addr} {k B off : Nat} (h : SV M l sz v ad k B off) (hok : M.le (Hp.of w)) :
    ∃ us, RowOf M sz l us ∧ (∀ u ∈ us, u.oneCell' = true) ∧ ∀ j u, us[j]? = some u → w.cell? ⟨B, off + j, none⟩ = some u := by
  obtain ⟨us, h1, h2⟩ := h.el.rowOf
  refine ⟨us, h1, fun u hu => ?_, fun j u hj => hok _ _ _ (h2 j u hj)⟩
  obtain ⟨o, ho, rfl⟩ := List.mem_iff_getElem.1 hu
  have hsz : 0 < sz := by
    rcases Nat.eq_zero_or_pos sz with h0 | h0
    · subst h0; rw [h1.1] at ho; omega
    · exact h0
  rw [h1.1] at ho
  have hi : o / sz < l.length := (Nat.div_lt_iff_lt_mul hsz).2 ho
  obtain ⟨a1, a2⟩ := h1.2 _ hi
  obtain ⟨u, b1, b2, _⟩ := a2 (o % sz) (by rw [a1]; exact Nat.mod_lt o hsz)
  have he : o / sz * sz + o % sz = o := by have := Nat.div_add_mod o sz; rw [Nat.mul_comm] at this; exact this
  rw [he, List.getElem?_eq_getElem (by rw [h1.1]; exact ho)] at b1
  cases b1; exact b2

theorem run_firstCells_any (w : World) (ad : Option Addr) (B off n sz k : Nat) (us : List Value) (hl : us.length = n * sz) (ha : n ≠ 0 → ad = some ⟨B, off, none⟩) (hu : ∀ j u, us[j]? = some u → w.cell? ⟨B, off + j, none⟩ = some u) :
    (Builtin.firstCells sz n (.slice ad n k)).run P w = .ok us.toArray w ∨ (n = 0 ∧ us = [] ∧ (Builtin.firstCells sz n (.slice ad n k)).run P w = .ok #[] w) := by
  by_cases h0 : n = 0
  · subst h0
    have hnil : us = [] := by
      have : us.length = 0 := by rw [hl]; simp
      exact List.length_eq_zero_iff.1 this
    refine .inr ⟨rfl, hnil, ?_⟩
    cases ad with
    | none => rfl
    | some b => simp [Builtin.firstCells, loadCells, loadCellsFrom]
  · refine .inl ?_
    rw [ha h0]
    simp only [Builtin.firstCells]
    have := run_loadCells_list (P := P) w ⟨B, off, none⟩ us (fun j v hv => by rw [addr_add]; exact hu j v hv)
    rw [hl] at this; exact this

theorem firstCells_run (w : World) {ad : Option Addr} {B off n sz k : Nat} {us : List Value} (hl : us.length = n * sz) (ha : n ≠ 0 → ad = some ⟨B, off, none⟩) (hu : ∀ j u, us[j]? = some u → w.cell? ⟨B, off + j, none⟩ = some u) :
    (Builtin.firstCells sz n (.slice ad n k)).run P w = .ok us.toArray w := by
  rcases run_firstCells_any (P := P) w ad B off n sz k us hl ha hu with h | ⟨_, h2, h3⟩
  · exact h
  · rw [h2]; exact h3

/-- the element's row of the table -/
structure EInf (P : Program) (t e : TypeId) (sz : Nat) : Prop where
  sl : P.underlying t = some (.slice e)
  ex : ∃ i z, P.info? e = some i ∧ i.zero = some z ∧ i.size = sz ∧ z.cells.size = sz ∧ i.bytes ≤ 4096

theorem append_unfold {t e sz bytes : Nat} {i : TypeInfo} {z : Value} (ht : P.underlying t = some (.slice e)) (hi : P.info? e = some i) (hz : i.zero = some z) (hsz : i.size = sz) (hby : i.bytes = bytes)
    (ty : TypeId) (ad : Option Addr) (n k : Nat) (xa : Option Addr) (m c : Nat) (w : World) (hle : n + m ≤ glim) (hb : bytes ≤ 4096) :
    (Builtin.append_ #[t, t] ty #[.slice ad n k, .slice xa m c]).run P w =
      if n + m ≤ k then ((Builtin.firstCells sz m (.slice xa m c)).run P w).andThen fun new w1 =>
          ((match ad with | some a => storeCells (a.add (n * sz)) new.toList | none => Pure.pure () : Sem Unit).run P w1).andThen fun _ w2 => .ok (.slice ad (n + m) k) w2
      else ((Builtin.firstCells sz n (.slice ad n k)).run P w.drew).andThen fun old w1 => ((Builtin.firstCells sz m (.slice xa m c)).run P w1).andThen fun new w2 =>
        .ok (.slice (some ⟨w2.heap.size, 0, none⟩) (n + m) (grownCap w (n + m) k e)) (w2.alloc (.cells (old ++ new ++ Builtin.zeroCells z.cells (grownCap w (n + m) k e - (n + m))) e)) := by
  subst hsz hby
  by_cases h : n + m ≤ k
  · rw [if_pos h]
    cases ad <;> simp [Builtin.append_, run_underlying ht, sizeOf, typeInfo, hi, Builtin.lenOf, h]
  · rw [if_neg h]
    have h63' : ¬ (9223372036854775807 < ((n : Int) + (m : Int))) := by ((try unfold glim at hle);(try unfold lim at hle)); omega
    have h48' : ¬ (281474976710656 < Builtin.nextslicecap (n + m) k * i.bytes) := by
      have h1 := Nat.mul_le_mul hle hb
      have := growslice_fits (need := n + m) (old := k) (bytes := i.bytes) (by omega) (by ((try unfold glim at h1);(try unfold lim at h1)); omega)
      omega
    simp [Builtin.append_, run_underlying ht, sizeOf, typeInfo, zeroValue, hi, hz, Builtin.lenOf, h, h63', h48', Question.forced, newRow, grownCap]
end
end Go.AM
