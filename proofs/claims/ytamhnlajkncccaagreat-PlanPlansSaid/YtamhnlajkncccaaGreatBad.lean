/-
  Texts of this claim joined (wip/gen/bundle.py), those declarations only that are needed: AmN AmA AmB. By an AI agent.
-/
import Derived.Test.YtamhnlajkncccaaGreatBac
set_option linter.unusedSimpArgs false
set_option linter.unusedVariables false
namespace Go.AM
open Go.CK Go.RowKit

def addCells (M : Hp) (B off : Nat) (us : List Value) : Hp := fun b o => if b = B ∧ off ≤ o ∧ o < off + us.length then us[o - off]? else M b o

theorem addCells_at {M : Hp} {B off : Nat} {us : List Value} {j : Nat} {u : Value} (h : us[j]? = some u) : addCells M B off us B (off + j) = some u := by
  have hj : j < us.length := by
    rcases Nat.lt_or_ge j us.length with h1 | h1
    · exact h1
    · rw [List.getElem?_eq_none h1] at h; cases h
  unfold addCells
  rw [if_pos ⟨rfl, by omega, by omega⟩, show off + j - off = j by omega]
  exact h
theorem addCells_le {M : Hp} {B off : Nat} {us : List Value} (h : ∀ o, off ≤ o → M B o = none) : M.le (addCells M B off us) := fun b o v hv => by
  simp only [addCells]
  rw [if_neg]
  · exact hv
  · rintro ⟨rfl, h1, _⟩
    rw [h o h1] at hv; cases hv
theorem addCells_ne {M : Hp} {B off : Nat} {us : List Value} {b : Nat} (h : b ≠ B) (o : Nat) : addCells M B off us b o = M b o := by
  simp only [addCells]; rw [if_neg (fun e => h e.1)]
theorem addCells_inv {M : Hp} {B off : Nat} {us : List Value} {b o : Nat} {v : Value} (h : addCells M B off us b o = some v) : (b = B ∧ ∃ j, o = off + j ∧ us[j]? = some v) ∨ M b o = some v := by
  simp only [addCells] at h
  split at h
  · rename_i hc
    exact .inl ⟨hc.1, o - off, by omega, h⟩
  · exact .inr h

/-- us: the cells of the elements l, sz each -/
def RowOf (M : Hp) (sz : Nat) (l : List AV) (us : List Value) : Prop :=
  us.length = l.length * sz ∧ ∀ i (h : i < l.length), l[i].cells.length = sz ∧ ∀ j (hj : j < l[i].cells.length), ∃ u, us[i * sz + j]? = some u ∧ u.oneCell' = true ∧ FV M (l[i].cells[j]) u

theorem RowOf.mono {M M' : Hp} (hM : M.le M') {sz : Nat} {l : List AV} {us : List Value} (h : RowOf M sz l us) : RowOf M' sz l us :=
  ⟨h.1, fun i hi => ⟨(h.2 i hi).1, fun j hj => let ⟨u, h1, h2, h3⟩ := (h.2 i hi).2 j hj; ⟨u, h1, h2, h3.mono hM⟩⟩⟩
theorem RowOf.nil (M : Hp) (sz : Nat) : RowOf M sz [] [] := ⟨by simp, fun i hi => by cases hi⟩
theorem RowOf.append {M : Hp} {sz : Nat} {l l2 : List AV} {us us2 : List Value} (h : RowOf M sz l us) (h2 : RowOf M sz l2 us2) : RowOf M sz (l ++ l2) (us ++ us2) := by
  refine ⟨by rw [List.length_append, List.length_append, h.1, h2.1, Nat.add_mul], fun i hi => ?_⟩
  by_cases hlt : i < l.length
  · have hmul : (i + 1) * sz ≤ l.length * sz := Nat.mul_le_mul_right _ hlt
    rw [Nat.add_mul, Nat.one_mul] at hmul
    simp only [List.getElem_append_left hlt]
    obtain ⟨a1, a2⟩ := h.2 i hlt
    refine ⟨a1, fun j hj => ?_⟩
    obtain ⟨u, b1, b2, b3⟩ := a2 j hj
    exact ⟨u, by rw [List.getElem?_append_left (by rw [h.1]; omega)]; exact b1, b2, b3⟩
  · obtain ⟨k, rfl⟩ : ∃ k, i = l.length + k := ⟨i - l.length, by omega⟩
    have hk : k < l2.length := by simp at hi; omega
    have he : (l ++ l2)[l.length + k]'hi = l2[k] := by
      rw [List.getElem_append_right (by omega)]
      simp
    obtain ⟨a1, a2⟩ := h2.2 k hk
    rw [he]
    refine ⟨a1, fun j hj => ?_⟩
    obtain ⟨u, b1, b2, b3⟩ := a2 j hj
    refine ⟨u, ?_, b2, b3⟩
    rw [Nat.add_mul, ← h.1, List.getElem?_append_right (by omega), show us.length + k * sz + j - us.length = k * sz + j by omega]
    exact b1
theorem RowOf.elems {M M' : Hp} (hM : M.le M') {sz B off : Nat} {l : List AV} {us : List Value} (h : RowOf M sz l us) (hu : ∀ j u, us[j]? = some u → M' B (off + j) = some u) : Elems M' B off sz l := fun i hi => by
  obtain ⟨a1, a2⟩ := h.2 i hi
  refine ⟨a1, fun j hj => ?_⟩
  obtain ⟨u, b1, b2, b3⟩ := a2 j hj
  exact ⟨u, by rw [Nat.add_assoc]; exact hu _ _ b1, b2, b3.mono hM⟩
theorem Elems.rowOf {M : Hp} {B off sz : Nat} {l : List AV} (h : Elems M B off sz l) : ∃ us, RowOf M sz l us ∧ ∀ j u, us[j]? = some u → M B (off + j) = some u := by
  have hget : ∀ o, o < l.length * sz → ∃ u, M B (off + o) = some u := fun o ho => by
    have hsz : 0 < sz := by
      rcases Nat.eq_zero_or_pos sz with h0 | h0
      · subst h0; omega
      · exact h0
    have hi : o / sz < l.length := (Nat.div_lt_iff_lt_mul hsz).2 ho
    have hj := Nat.mod_lt o hsz
    obtain ⟨a1, a2⟩ := h _ hi
    obtain ⟨u, b1, _⟩ := a2 (o % sz) (by omega)
    refine ⟨u, ?_⟩
    rw [← b1, Nat.add_assoc]
    congr 1
    have := Nat.div_add_mod o sz
    rw [Nat.mul_comm] at this
    omega
  refine ⟨(List.range (l.length * sz)).map fun o => (M B (off + o)).getD undef, ⟨by simp, fun i hi => ⟨(h i hi).1, fun j hj => ?_⟩⟩, fun j u hu => ?_⟩
  · obtain ⟨a1, a2⟩ := h i hi
    obtain ⟨u, b1, b2, b3⟩ := a2 j hj
    have hmul : (i + 1) * sz ≤ l.length * sz := Nat.mul_le_mul_right _ hi
    rw [Nat.add_mul, Nat.one_mul] at hmul
    refine ⟨u, ?_, b2, b3⟩
    rw [Nat.add_assoc] at b1
    simp [List.getElem?_range (show i * sz + j < l.length * sz by omega), b1]
  · have hj : j < l.length * sz := by
      rcases Nat.lt_or_ge j (l.length * sz) with h1 | h1
      · exact h1
      · rw [List.getElem?_eq_none (by simpa using h1)] at hu; cases hu
    obtain ⟨u', hu'⟩ := hget j hj
    simp [hj, hu'] at hu
    rw [hu', hu]

section
variable {E : Entry} {G : Gh} {s : St} {a : Act} {w : World} {P : Program}

theorem RS.noM (h : RS E G s a w) (o : Nat) : G.M w.heap.size o = none := by
  cases hq : G.M w.heap.size o with
  | none => rfl
  | some v => exact absurd (Hp.lt h.ok hq) (by omega)

/-- a new block whose first cells stay as they are -/
theorem RS.newRow (h : RS E G s a w) (vs : Array Value) (T : TypeId) (us : List Value) (hp : ∀ (j : Nat) u, us[j]? = some u → vs[j]? = some u) :
    RS E { G with M := addCells G.M w.heap.size 0 us } s a (w.alloc (.cells vs T)) := by
  refine h.grow ⟨rfl, rfl, rfl, by simp, addCells_le fun o _ => h.noM o, fun B hB _ => Below.heap_alloc _ _ _ hB, fun B hB _ o => addCells_ne (by omega) o⟩ fun b o v hv => ?_
  rcases addCells_inv hv with ⟨rfl, j, rfl, hj⟩ | hv
  · have hnew : (w.alloc (.cells vs T)).heap[w.heap.size]? = some (.cells vs T (0, 0)) := heap_alloc_new w _
    simp only [Hp.of, World.cell?, hnew]
    simpa using hp j v hj
  · exact (Ext.refl w).alloc _ |>.cell (h.ok _ _ _ hv)

/-- block B has room behind its n elements; nobody but p was said to own it, and p does so no longer -/
structure Spare (E : Entry) (G : Gh) (s : St) (w : World) (B z n k : Nat) (p : Pl) : Prop where
  row : Row E.FP E.w G.M w B z n k
  only : ∀ q, G.cl q = some B → q = p
  box : ∀ b cs, boxCells s.bs b = some cs → G.σ b ≠ B
  lt : B < w.heap.size
  not : ∀ z l, s.at p ≠ some (.sl (.own z) l)

theorem RS.own_of (h : RS E G s a w) {d p : Pl} {o : Cap} {l : List AV} {B z k : Nat} (hd : s.at d = some (.sl o l)) (hv : valAt G.σ a w d = .slice (some ⟨B, 0, none⟩) l.length k) (hs : Spare E G s w B z l.length k p) (hz : ∀ y ∈ l, y.cells.length = z) :
    RS E { G with cl := fun r => if r = d then some B else if r = p then none else G.cl r } (s.upd d (.sl (.own z) l)) a w := by
  have hvd := h.val d _ hd
  refine ⟨h.fr, h.ok, h.nt, fun r u hu => ?_, fun b j u hu => ?_, fun b cs hb => ?_, fun b cs hb => ?_, fun b b' cs cs' hb hb' e => ?_, fun r z' l' hr => ?_, fun r r' B' hr hr' => ?_, fun r B' hB' b cs hb => ?_, fun r B' hB' => ?_, (St.upd_lo s d _).trans h.lo, by rw [St.upd_len]; exact h.len, h.sig, h.sp.step (Hp.le_refl _) (fun _ _ => rfl) (fun _ _ k => St.upd_loop k) (fun _ _ k _ => k) (fun B' o ho hk r k => by
    simp only at k
    by_cases e1 : r = d
    · rw [if_pos e1] at k; cases k
      obtain ⟨vs, T, hc, _⟩ := hs.row.cells
      rw [hc] at ho; cases ho; cases hk
    · rw [if_neg e1] at k
      by_cases e2 : r = p
      · rw [if_pos e2] at k; cases k
      · rw [if_neg e2] at k; exact ⟨r, k⟩) (fun _ k => k)⟩
  · rw [St.at_upd s hd] at hu
    rw [St.upd_len]
    by_cases hr : r = d
    · rw [if_pos hr] at hu; cases hu
      rw [hr]
      have := hvd.norm1
      rw [deown_norm1] at this; exact this
    · rw [if_neg hr] at hu; exact h.val r u hu
  · rw [St.at_upd s hd] at hu
    by_cases hr : Pl.bx b j = d
    · exact h.one b j _ (hr ▸ hd)
    · rw [if_neg hr] at hu; exact h.one b j u hu
  · obtain ⟨ds, h1, h2⟩ := s.upd_box d _ b cs hb
    obtain ⟨vs, T, h3, h4⟩ := h.box b ds h1
    exact ⟨vs, T, h3, Nat.le_trans (by omega) h4⟩
  · obtain ⟨ds, h1, h2⟩ := s.upd_box d _ b cs hb
    exact h.bmem b ds h1
  · obtain ⟨ds, h1, _⟩ := s.upd_box d _ b cs hb
    obtain ⟨ds', h1', _⟩ := s.upd_box d _ b' cs' hb'
    exact h.inj b b' ds ds' h1 h1' e
  · rw [St.at_upd s hd] at hr
    by_cases hrd : r = d
    · rw [if_pos hrd] at hr; cases hr
      exact ⟨_, k, by rw [hrd]; exact hv, hz, .inr ⟨B, by simp [hrd], rfl, hs.row⟩⟩
    · rw [if_neg hrd] at hr
      obtain ⟨ad, k', h2, hz', h3⟩ := h.own r z' l' hr
      refine ⟨ad, k', h2, hz', ?_⟩
      rcases h3 with h3 | ⟨B', hB', h4, h5⟩
      · exact .inl h3
      · refine .inr ⟨B', ?_, h4, h5⟩
        have : r ≠ p := fun e => hs.not _ _ (e ▸ hr)
        simp only [hrd, this, if_false]; exact hB'
  · simp only at hr hr'
    by_cases hrd : r = d
    · rw [if_pos hrd] at hr
      by_cases hrd' : r' = d
      · rw [hrd, hrd']
      · rw [if_neg hrd'] at hr'
        by_cases hrp' : r' = p
        · rw [if_pos hrp'] at hr'; cases hr'
        · rw [if_neg hrp'] at hr'
          cases hr
          exact absurd (hs.only _ hr') hrp'
    · rw [if_neg hrd] at hr
      by_cases hrp : r = p
      · rw [if_pos hrp] at hr; cases hr
      · rw [if_neg hrp] at hr
        by_cases hrd' : r' = d
        · rw [if_pos hrd'] at hr'
          cases hr'
          exact absurd (hs.only _ hr) hrp
        · rw [if_neg hrd'] at hr'
          by_cases hrp' : r' = p
          · rw [if_pos hrp'] at hr'; cases hr'
          · rw [if_neg hrp'] at hr'; exact h.clinj _ _ B' hr hr'
  · obtain ⟨ds, h1, _⟩ := s.upd_box d _ b cs hb
    simp only at hB'
    by_cases hrd : r = d
    · rw [if_pos hrd] at hB'; cases hB'; exact hs.box b ds h1
    · rw [if_neg hrd] at hB'
      by_cases hrp : r = p
      · rw [if_pos hrp] at hB'; cases hB'
      · rw [if_neg hrp] at hB'; exact h.clbox r B' hB' b ds h1
  · simp only at hB'
    by_cases hrd : r = d
    · rw [if_pos hrd] at hB'; cases hB'; exact ⟨hs.lt, hs.row.mine⟩
    · rw [if_neg hrd] at hB'
      by_cases hrp : r = p
      · rw [if_pos hrp] at hB'; cases hB'
      · rw [if_neg hrp] at hB'; exact h.cllt r B' hB'

/-- the spare cells of a row are filled -/
theorem RS.fill (h : RS E G s a w) {B z n k : Nat} {p : Pl} (hs : Spare E G s w B z n k p) {m : Nat} (us : List Value) (hu : us.length = m * z) (hmk : n + m ≤ k) (h1 : ∀ u ∈ us, u.oneCell' = true) :
    ∃ w', (storeCells (⟨B, n * z, none⟩ : Addr) us).run P w = .ok () w' ∧ RS E { G with M := addCells G.M B (n * z) us } s a w' ∧ w'.heap.size = w.heap.size ∧
      (n + m < k → Spare E { G with M := addCells G.M B (n * z) us } s w' B z (n + m) k p) := by
  obtain ⟨vs, T, hc, hvs⟩ := hs.row.cells
  have hfit : n * z + us.length ≤ vs.size := by
    rw [hu, hvs, ← Nat.add_mul]; exact Nat.mul_le_mul_right _ hmk
  have hrun := run_storeCells_at P B (n * z) T us 0 vs w hc (by simpa using hfit) h1
  simp only [Nat.add_zero] at hrun
  have hnew := setRow_heap w B vs (vs.toList.take (n * z) ++ us ++ vs.toList.drop (n * z + us.length)).toArray T (0, 0) hc
  have hother : ∀ k, k ≠ B → (w.setRow B (vs.toList.take (n * z) ++ us ++ vs.toList.drop (n * z + us.length)).toArray).heap[k]? = w.heap[k]? := fun k hk => by
    simp only [World.setRow, Array.getElem?_modify]; rw [if_neg (Ne.symm hk)]
  have hsize : (w.setRow B (vs.toList.take (n * z) ++ us ++ vs.toList.drop (n * z + us.length)).toArray).heap.size = w.heap.size := by simp [World.setRow]
  have hlen : (vs.toList.take (n * z) ++ us ++ vs.toList.drop (n * z + us.length)).length = vs.size := by
    simp; omega
  have hin : ∀ (j : Nat) u, us[j]? = some u → (vs.toList.take (n * z) ++ us ++ vs.toList.drop (n * z + us.length))[n * z + j]? = some u := fun j u hj => by
    have hjl : j < us.length := by
      rcases Nat.lt_or_ge j us.length with h1 | h1
      · exact h1
      · rw [List.getElem?_eq_none h1] at hj; cases hj
    rw [List.append_assoc, List.getElem?_append_right (by simp; omega)]
    simp only [List.length_take, Array.length_toList]
    rw [show n * z + j - min (n * z) vs.size = j by omega, List.getElem?_append_left hjl]; exact hj
  have hout : ∀ (o : Nat), o < n * z → (vs.toList.take (n * z) ++ us ++ vs.toList.drop (n * z + us.length))[o]? = vs[o]? := fun o ho => by
    rw [List.append_assoc, List.getElem?_append_left (by simp; omega), List.getElem?_take, if_pos ho, Array.getElem?_toList]
  have hval : ∀ q y, s.at q = some y → valAt G.σ a (w.setRow B (vs.toList.take (n * z) ++ us ++ vs.toList.drop (n * z + us.length)).toArray) q = valAt G.σ a w q := fun q y hq => by
    cases q with
    | sl t => rfl
    | bx b j =>
      simp only [St.at] at hq
      cases hb : boxCells s.bs b with
      | none => rw [hb] at hq; cases hq
      | some cs => simp only [valAt]; rw [cell_heap (hother _ (hs.box b cs hb))]
  have hfree := hs.row.free
  have hMle : G.M.le (addCells G.M B (n * z) us) := addCells_le hfree
  refine ⟨_, hrun, ?_, hsize, fun hlt => ?_⟩
  · refine ⟨?_, fun b o v hv => ?_, h.nt, fun q y hq => ?_, fun b j y hq => ?_, fun b cs hb => ?_, fun b cs hb => ?_, h.inj, fun q z' l' hq => ?_, h.clinj, h.clbox, fun q B' hB' => by rw [hsize]; exact h.cllt q B' hB', h.lo, h.len, h.sig, h.sp.step hMle (fun _ _ => rfl) (fun _ _ k => k) (fun B' o ho hk => by rw [hother B' (fun e => by subst e; rw [hc] at ho; cases ho; cases hk)]; exact ho) (fun _ _ _ _ p k => ⟨p, k⟩) (fun _ k => k)⟩
    · refine ⟨h.fr.os, h.fr.tape, h.fr.output, by rw [hsize]; exact h.fr.size, Hp.le_trans h.fr.le hMle, fun B' hB' hn => ?_, fun B' hB' hn o => ?_⟩
      · have : B' ≠ B := fun e => by
          subst e
          rcases hs.row.mine with h1 | h1
          · exact hn h1
          · omega
        rw [hother B' this]; exact h.fr.heap B' hB' hn
      · have : B' ≠ B := fun e => by
          subst e
          rcases hs.row.mine with h1 | h1
          · exact hn h1
          · omega
        exact (addCells_ne this o).trans (h.fr.mem B' hB' hn o)
    · rcases addCells_inv hv with ⟨rfl, j, rfl, hj⟩ | hv2
      · simp only [Hp.of, World.cell?, hnew]
        simp only [Option.isSome_none, Bool.false_eq_true, if_false, List.getElem?_toArray]
        exact hin j v hj
      · have := h.ok _ _ _ hv2
        by_cases e : b = B
        · subst e
          have ho : o < n * z := by
            rcases Nat.lt_or_ge o (n * z) with h1 | h1
            · exact h1
            · rw [hfree o h1] at hv2; cases hv2
          simp only [Hp.of, World.cell?, hc] at this
          simp only [Hp.of, World.cell?, hnew]
          simp only [Option.isSome_none, Bool.false_eq_true, if_false, List.getElem?_toArray] at this ⊢
          rw [hout o ho]; exact this
        · simp only [Hp.of]
          rw [cell_heap (hother b e)]; exact this
    · rw [hval q y hq]; exact (h.val q y hq).mono hMle (Nat.le_refl _) (fun _ _ => rfl)
    · rw [hval _ y hq]; exact h.one b j y hq
    · obtain ⟨us', T', h2, h3⟩ := h.box b cs hb
      exact ⟨us', T', by rw [hother _ (hs.box b cs hb)]; exact h2, h3⟩
    · obtain ⟨h2, h3⟩ := h.bmem b cs hb
      exact ⟨fun o => (addCells_ne (hs.box b cs hb) o).trans (h2 o), h3⟩
    · obtain ⟨ad, k', h2, hz', h3⟩ := h.own q z' l' hq
      refine ⟨ad, k', by rw [hval q _ hq]; exact h2, hz', ?_⟩
      rcases h3 with h3 | ⟨B', hB', h4, h5⟩
      · exact .inl h3
      · have hne : B' ≠ B := fun e => by
          subst e
          have := hs.only q hB'
          subst this
          exact hs.not _ _ hq
        obtain ⟨us', T', h6, h7⟩ := h5.cells
        exact .inr ⟨B', hB', h4, h5.lt, ⟨us', T', by rw [hother B' hne]; exact h6, h7⟩, fun o ho => (addCells_ne hne o).trans (h5.free o ho), h5.mine⟩
  · refine ⟨⟨hlt, ⟨_, T, hnew, by rw [List.size_toArray, hlen, hvs]⟩, fun o ho => ?_, hs.row.mine⟩, hs.only, hs.box, by rw [hsize]; exact hs.lt, hs.not⟩
    simp only [addCells]
    rw [if_neg (fun e => by have := e.2.2; rw [hu, ← Nat.add_mul] at this; omega)]
    exact hfree o (Nat.le_trans (Nat.mul_le_mul_right _ (Nat.le_add_right _ _)) ho)

/-- what is known of a slice value: its elements, its capacity -/
structure SV (M : Hp) (l : List AV) (sz : Nat) (v : Value) (ad : Option Addr) (k B off : Nat) : Prop where
  eq : v = .slice ad l.length k
  cap : l.length ≤ k
  len : l.length ≤ lim
  at_ : l ≠ [] → ad = some ⟨B, off, none⟩
  el : Elems M B off sz l

theorem RV.sv {M : Hp} {σ : Nat → Nat} {n : Nat} {o : Cap} {l : List AV} {v : Value} (h : RV M σ n (.sl o l) v) {sz : Nat} (hz : ∀ y ∈ l, y.cells.length = sz) : ∃ ad k B off, SV M l sz v ad k B off := by
  obtain ⟨ad, k, B, off, sz', h1, h2, h3, h4, h5, h6, h7⟩ := h.inv_sl
  refine ⟨ad, k, B, off, h1, h3, h4, h6, fun i hi => ?_⟩
  obtain ⟨a1, a2⟩ := h7 i hi
  have := hz _ (List.getElem_mem hi)
  refine ⟨this, ?_⟩
  rw [← this, a1]; exact a2

theorem SV.rv {M : Hp} {σ : Nat → Nat} {n sz : Nat} {o : Cap} {l : List AV} {v : Value} {ad : Option Addr} {k B off : Nat} (h : SV M l sz v ad k B off) (ho : ∀ z, o ≠ .own z) (hf : o = .full → k = l.length) : RV M σ n (.sl o l) v := by
  rw [h.eq]
  exact .flat (.mk_sl ho h.cap h.len hf h.at_ h.el)

/-- the elements of a slice as cells that lie in w -/
theorem SV.row {M : Hp} {l : List AV} {sz : Nat} {v : Value} {ad : Option Addr} {k B off : Nat} (h : SV M l sz v ad k B off) (hok : M.le (Hp.of w)) :
    ∃ us, RowOf M sz l us ∧ (∀ u ∈ us, u.oneCell' = true) ∧ ∀ j u, us[j]? = some u → w.cell? ⟨B, off + j, none⟩ = some u := by
  obtain ⟨us, h1, h2⟩ := h.el.rowOf
  refine ⟨us, h1, fun u hu => ?_, fun j u hj => hok _ _ _ (h2 j u hj)⟩
  obtain ⟨o, ho, rfl⟩ := List.mem_iff_getElem.1 hu
  have hsz : 0 < sz := by
    rcases Nat.eq_zero_or_pos sz with h0 | h0
    · subst h0; rw [h1.1] at ho; omega
    · exact h0
  rw [h1.1] at ho
  have hi : o / sz < l.length := (Nat.div_lt_iff_lt_mul hsz).2 ho
  obtain ⟨a1, a2⟩ := h1.2 _ hi
  obtain ⟨u, b1, b2, _⟩ := a2 (o % sz) (by rw [a1]; exact Nat.mod_lt o hsz)
  have he : o / sz * sz + o % sz = o := by have := Nat.div_add_mod o sz; rw [Nat.mul_comm] at this; exact this
  rw [he, List.getElem?_eq_getElem (by rw [h1.1]; exact ho)] at b1
  cases b1; exact b2

theorem run_firstCells_any (w : World) (ad : Option Addr) (B off n sz k : Nat) (us : List Value) (hl : us.length = n * sz) (ha : n ≠ 0 → ad = some ⟨B, off, none⟩) (hu : ∀ j u, us[j]? = some u → w.cell? ⟨B, off + j, none⟩ = some u) :
    (Builtin.firstCells sz n (.slice ad n k)).run P w = .ok us.toArray w ∨ (n = 0 ∧ us = [] ∧ (Builtin.firstCells sz n (.slice ad n k)).run P w = .ok #[] w) := by
  by_cases h0 : n = 0
  · subst h0
    have hnil : us = [] := by
      have : us.length = 0 := by rw [hl]; simp
      exact List.length_eq_zero_iff.1 this
    refine .inr ⟨rfl, hnil, ?_⟩
    cases ad with
    | none => rfl
    | some b => simp [Builtin.firstCells, loadCells, loadCellsFrom]
  · refine .inl ?_
    rw [ha h0]
    simp only [Builtin.firstCells]
    have := run_loadCells_list (P := P) w ⟨B, off, none⟩ us (fun j v hv => by rw [addr_add]; exact hu j v hv)
    rw [hl] at this; exact this

theorem firstCells_run (w : World) {ad : Option Addr} {B off n sz k : Nat} {us : List Value} (hl : us.length = n * sz) (ha : n ≠ 0 → ad = some ⟨B, off, none⟩) (hu : ∀ j u, us[j]? = some u → w.cell? ⟨B, off + j, none⟩ = some u) :
    (Builtin.firstCells sz n (.slice ad n k)).run P w = .ok us.toArray w := by
  rcases run_firstCells_any (P := P) w ad B off n sz k us hl ha hu with h | ⟨_, h2, h3⟩
  · exact h
  · rw [h2]; exact h3

/-- the element's row of the table -/
structure EInf (P : Program) (t e : TypeId) (sz : Nat) : Prop where
  sl : P.underlying t = some (.slice e)
  ex : ∃ i z, P.info? e = some i ∧ i.zero = some z ∧ i.size = sz ∧ z.cells.size = sz ∧ i.bytes ≤ 4096

theorem append_unfold {t e sz bytes : Nat} {i : TypeInfo} {z : Value} (ht : P.underlying t = some (.slice e)) (hi : P.info? e = some i) (hz : i.zero = some z) (hsz : i.size = sz) (hby : i.bytes = bytes)
    (ty : TypeId) (ad : Option Addr) (n k : Nat) (xa : Option Addr) (m c : Nat) (w : World) (hle : n + m ≤ glim) (hb : bytes ≤ 4096) :
    (Builtin.append_ #[t, t] ty #[.slice ad n k, .slice xa m c]).run P w =
      if n + m ≤ k then ((Builtin.firstCells sz m (.slice xa m c)).run P w).andThen fun new w1 =>
          ((match ad with | some a => storeCells (a.add (n * sz)) new.toList | none => Pure.pure () : Sem Unit).run P w1).andThen fun _ w2 => .ok (.slice ad (n + m) k) w2
      else ((Builtin.firstCells sz n (.slice ad n k)).run P w.drew).andThen fun old w1 => ((Builtin.firstCells sz m (.slice xa m c)).run P w1).andThen fun new w2 =>
        .ok (.slice (some ⟨w2.heap.size, 0, none⟩) (n + m) (grownCap w (n + m) k e)) (w2.alloc (.cells (old ++ new ++ Builtin.zeroCells z.cells (grownCap w (n + m) k e - (n + m))) e)) := by
  subst hsz hby
  by_cases h : n + m ≤ k
  · rw [if_pos h]
    cases ad <;> simp [Builtin.append_, run_underlying ht, sizeOf, typeInfo, hi, Builtin.lenOf, h]
  · rw [if_neg h]
    have h63' : ¬ (9223372036854775807 < ((n : Int) + (m : Int))) := by ((try unfold glim at hle);(try unfold lim at hle)); omega
    have h48' : ¬ (281474976710656 < Builtin.nextslicecap (n + m) k * i.bytes) := by
      have h1 := Nat.mul_le_mul hle hb
      have := growslice_fits (need := n + m) (old := k) (bytes := i.bytes) (by omega) (by ((try unfold glim at h1);(try unfold lim at h1)); omega)
      omega
    simp [Builtin.append_, run_underlying ht, sizeOf, typeInfo, zeroValue, hi, hz, Builtin.lenOf, h, h63', h48', Question.forced, newRow, grownCap]
end
end Go.AM

namespace Go.AM
open Go.CK Go.RowKit

section
variable {E : Entry} {G : Gh} {s : St} {a : Act} {w : World} {P : Program}

def Room (E : Entry) (G : Gh) (s : St) (w : World) (ad : Option Addr) (z n k : Nat) : Prop := k = n ∨ ∃ B p, ad = some ⟨B, 0, none⟩ ∧ Spare E G s w B z n k p

theorem append_core (h : RS E G s a w) {t e z : Nat} (he : EInf P t e z) {l xs : List AV} {v vx : Value} {ad xa : Option Addr} {k B off c Bx offx : Nat} (hv : SV G.M l z v ad k B off) (hx : SV G.M xs z vx xa c Bx offx)
    (hlen : l.length + xs.length ≤ glim) (hroom : Room E G s w ad z l.length k) (ty : TypeId) :
    ∃ v' G' w', (Builtin.append_ #[t, t] ty #[v, vx]).run P w = .ok v' w' ∧ RS E G' s a w' ∧ ∃ ad' k' B' off', SV G'.M (l ++ xs) z v' ad' k' B' off' ∧ Room E G' s w' ad' z (l ++ xs).length k' := by
  obtain ⟨i, zv, hi, hz, hsz, hzs, hb⟩ := he.ex
  obtain ⟨us, u1, u2, u3⟩ := hv.row h.ok
  obtain ⟨xs', x1, x2, x3⟩ := hx.row h.ok
  have hun := append_unfold (P := P) he.sl hi hz hsz rfl ty ad l.length k xa xs.length c w hlen hb
  rw [hv.eq, hx.eq, hun]
  have hnil : ∀ (q : List AV), q.length ≠ 0 → q ≠ [] := fun q hq e => hq (by simp [e])
  by_cases hfit : l.length + xs.length ≤ k
  · rw [if_pos hfit, firstCells_run (P := P) w x1.1 (fun h0 => hx.at_ (hnil _ h0)) x3]
    simp only [Result.andThen_ok]
    rcases hroom with rfl | ⟨B1, p, rfl, hs⟩
    · have hxs : xs = [] := List.length_eq_zero_iff.1 (by omega)
      subst hxs
      have : xs' = [] := List.length_eq_zero_iff.1 (by rw [x1.1]; simp)
      subst this
      refine ⟨.slice ad l.length l.length, G, w, ?_, h, ad, l.length, B, off, ?_, .inl (by simp)⟩
      · cases ad <;> simp [storeCells]
      · rw [List.append_nil]; exact ⟨rfl, hv.cap, hv.len, hv.at_, hv.el⟩
    · have hB : l ≠ [] → B = B1 ∧ off = 0 := fun h0 => by
        have := hv.at_ h0
        simp only [Option.some.injEq, Addr.mk.injEq, and_true] at this
        exact ⟨this.1.symm, this.2.symm⟩
      obtain ⟨w', r1, r2, r3, r4⟩ := h.fill (P := P) hs xs' x1.1 hfit x2
      have hMle : G.M.le (addCells G.M B1 (l.length * z) xs') := addCells_le hs.row.free
      refine ⟨_, _, w', ?_, r2, some ⟨B1, 0, none⟩, k, B1, 0, ⟨by rw [List.length_append], by simpa using hfit, by simp only [List.length_append];unfold glim at hlen;first|(unfold glim;omega)|(unfold lim;omega), fun _ => rfl, ?_⟩, ?_⟩
      · simp only
        rw [addr_add, Nat.zero_add, r1]; rfl
      · refine (u1.append x1).elems hMle fun j u hj => ?_
        by_cases hjl : j < us.length
        · rw [List.getElem?_append_left hjl] at hj
          have hl0 : l ≠ [] := fun e => by subst e; rw [u1.1] at hjl; simp at hjl
          obtain ⟨rfl, rfl⟩ := hB hl0
          refine hMle _ _ _ ?_
          obtain ⟨us2, y1, y2⟩ := hv.el.rowOf
          have hlen2 : us2.length = us.length := by rw [y1.1, u1.1]
          have hj2 := y2 j (us2[j]'(by omega)) (List.getElem?_eq_getElem _)
          have h8 := u3 j u hj
          have h9 := h.ok _ _ _ hj2
          simp only [Hp.of] at h9
          rw [h9] at h8
          rw [hj2, h8]
        · rw [List.getElem?_append_right (by omega)] at hj
          have : j = l.length * z + (j - us.length) := by rw [← u1.1]; omega
          rw [Nat.zero_add, this]
          exact addCells_at hj
      · by_cases hlt : l.length + xs.length < k
        · exact .inr ⟨B1, p, rfl, by rw [List.length_append]; exact r4 hlt⟩
        · exact .inl (by rw [List.length_append]; omega)
  · rw [if_neg hfit]
    have hg := grownCap_ge w (l.length + xs.length) k e
    rw [firstCells_run (P := P) w.drew u1.1 (fun h0 => hv.at_ (hnil _ h0)) (by simpa using u3)]
    simp only [Result.andThen_ok]
    rw [firstCells_run (P := P) w.drew x1.1 (fun h0 => hx.at_ (hnil _ h0)) (by simpa using x3)]
    simp only [Result.andThen_ok]
    have hd : RS E G s a w.drew := h.drew
    have hvs : (us.toArray ++ xs'.toArray ++ Builtin.zeroCells zv.cells (grownCap w (l.length + xs.length) k e - (l.length + xs.length))).size = grownCap w (l.length + xs.length) k e * z := by
      have h1 := u1.1
      have h2 := x1.1
      simp only [Array.size_append, List.size_toArray, size_zeroCells, hzs, h1, h2, ← Nat.add_mul]
      congr 1; omega
    have hr := hd.newRow (us.toArray ++ xs'.toArray ++ Builtin.zeroCells zv.cells (grownCap w (l.length + xs.length) k e - (l.length + xs.length))) e (us ++ xs') (fun j u hj => by
      have hjl : j < (us ++ xs').length := by
        rcases Nat.lt_or_ge j (us ++ xs').length with h1 | h1
        · exact h1
        · rw [List.getElem?_eq_none h1] at hj; cases hj
      show ((us.toArray ++ xs'.toArray) ++ Builtin.zeroCells zv.cells _)[j]? = some u
      rw [Array.getElem?_append_left (by simpa using hjl)]
      simpa using hj)
    refine ⟨_, _, _, rfl, hr, some ⟨w.drew.heap.size, 0, none⟩, _, w.drew.heap.size, 0, ⟨by rw [List.length_append], by simpa using hg, by simp only [List.length_append];unfold glim at hlen;first|(unfold glim;omega)|(unfold lim;omega), fun _ => rfl, ?_⟩, ?_⟩
    · exact (u1.append x1).elems (addCells_le fun o _ => hd.noM o) fun j u hj => addCells_at hj
    · by_cases hlt : l.length + xs.length < grownCap w (l.length + xs.length) k e
      · refine .inr ⟨w.drew.heap.size, .bx s.bs.length 0, rfl, ⟨⟨by rw [List.length_append]; exact hlt, ⟨_, e, heap_alloc_new _ _, hvs⟩, fun o ho => ?_, .inr h.fr.size⟩, fun q hq => ?_, fun b cs hb e => ?_, by simp, fun z l e => ?_⟩⟩
        · simp only [addCells]
          rw [if_neg (fun e => by
            have h1 := e.2.2
            have h2 := (u1.append x1).1
            omega)]
          exact hd.noM o
        · exact absurd (hd.cllt q _ hq).1 (by omega)
        · exact absurd (hd.blt hb) (by have e' : G.σ b = w.drew.heap.size := e; omega)
        · simp [St.at, boxCells] at e
      · exact .inl (by rw [List.length_append]; omega)

theorem envPut_put : ∀ (e : List (Nat × AV)) (k : Nat) (x y : AV), envPut (envPut e k x) k y = envPut e k y
  | [], k, x, y => by simp [envPut]
  | (t, u) :: r, k, x, y => by
    simp only [envPut]
    cases h1 : Nat.beq t k with
    | true =>
      have h : Nat.beq k k = true := by simp
      simp only [envPut, h]
    | false =>
      cases h2 : Nat.blt k t with
      | true =>
        have h : Nat.beq k k = true := by simp
        simp only [envPut, h]
      | false =>
        simp only [envPut, h1, h2]
        rw [envPut_put r k x y]
theorem St.put_put (s : St) (k : Nat) (x y : AV) : (s.put (some k) x).upd (.sl k) y = s.put (some k) y := by
  simp [St.put, St.upd, envPut_put]

/-- a slice of one's own, into a slot -/
theorem RS.putOwn (h : RS E G s a w) {d : Nat} (hd : d < E.nt) {l : List AV} {z : Nat} {v : Value} {ad : Option Addr} {k B off : Nat} (hv : SV G.M l z v ad k B off) (hroom : Room E G s w ad z l.length k) :
    ∃ G', RS E G' (s.put (some d) (.sl (.own z) l)) (a.put (some d) v) w := by
  have hz : ∀ y ∈ l, y.cells.length = z := fun y hy => by
    obtain ⟨i, hi, rfl⟩ := List.mem_iff_getElem.1 hy
    exact (hv.el i hi).1
  have hd' : d < a.tmps.size := by rw [h.nt]; exact hd
  rcases hroom with hk | ⟨B1, p, had, hs⟩
  · have h1 := h.put hd (hv.rv (σ := G.σ) (n := s.bs.length) (o := .full) (by simp) (fun _ => hk))
    have hat : (s.put (some d) (.sl .full l)).at (.sl d) = some (.sl .full l) := by rw [St.at_put, if_pos rfl]
    have h2 := h1.claim hat hz
    rw [St.put_put] at h2
    exact ⟨G, h2⟩
  · have h1 := h.put hd (hv.rv (σ := G.σ) (n := s.bs.length) (o := .no) (by simp) (by simp))
    have hat : (s.put (some d) (.sl .no l)).at (.sl d) = some (.sl .no l) := by rw [St.at_put, if_pos rfl]
    have h2 := h1.own_of (p := p) hat (by rw [valAt_put a w d v _ hd', if_pos rfl, hv.eq, had]) ⟨hs.row, hs.only, hs.box, hs.lt, fun z' l' e => by
      rw [St.at_put] at e
      by_cases hp : p = .sl d
      · rw [if_pos hp] at e; cases e
      · rw [if_neg hp] at e; exact hs.not _ _ e⟩ hz
    rw [St.put_put] at h2
    exact ⟨_, h2⟩
end

/-- what a builtin call runs -/
theorem exec_builtin2 (P : Program) (ρ : Operand → Value) (o : Oper) {b : Builtin} {x y : Operand} {ts : Array TypeId} (ho : o.op = .call { callee := .builtin b, args := #[x, y], argTypes := ts }) (hb : b = .append ∨ b = .copy ∨ b = .delete) (w : World) :
    (execOp ρ o).run P w = ((match b with | .append => Builtin.append_ ts o.type #[ρ x, ρ y] | .copy => Builtin.copy_ ts o.type #[ρ x, ρ y] | _ => Builtin.delete_ ts o.type #[ρ x, ρ y] : Sem Value).run P w).andThen fun v w' => .ok (.value v) w' := by
  unfold execOp
  rcases hb with rfl | rfl | rfl <;> simp [ho, resolve, invoke, builtin]

def appendK (z : Nat) (s : St) (o : Opd) (x : AV) (K : AV → St → Prop) : Prop :=
  match x with
  | .sl _ xs => match o with
    | .t t => match s.get t with
      | .sl (.own z') l => req (Nat.beq z z') (((∀ y ∈ xs, y.cells.length = z) ∧ l.length + xs.length ≤ glim) ∧ K (.sl (.own z) (l ++ xs)) (s.put (some t) (.sl .no l)))
      | .sl .full l => ((∀ y ∈ l ++ xs, y.cells.length = z) ∧ l.length + xs.length ≤ glim) ∧ K (.sl (.own z) (l ++ xs)) s
      | _ => False
    | .c (.sl .full l) => ((∀ y ∈ l ++ xs, y.cells.length = z) ∧ l.length + xs.length ≤ glim) ∧ K (.sl (.own z) (l ++ xs)) s
    | _ => False
  | _ => False

theorem append_fin {P : Program} {s s1 : St} {o : Oper} {x y : Operand} {t e z d : Nat} (ho : o.op = .call { callee := .builtin .append, args := #[x, y], argTypes := #[t, t] }) (hdst : o.dst = some d) (he : EInf P t e z) {l xs : List AV} {oy : Cap}
    {ry : Opd} (hy : opd y = some ry) (hxe : s.ev ry = .sl oy xs) (hxz : ∀ y ∈ xs, y.cells.length = z) (hlen : l.length + xs.length ≤ glim) {K : St → Prop} (hK : K (s1.put (some d) (.sl (.own z) (l ++ xs))))
    (hsrc : ∀ E G a w, RS E G s a w → ∃ G1, RS E G1 s1 a w ∧ G1.M = G.M ∧ G1.σ = G.σ ∧ ∃ ad k B off, SV G.M l z (a.eval x) ad k B off ∧ Room E G1 s1 w ad z l.length k) : OpS P o s K := by
  intro E G a w rd n next Q hs hdlt hnext
  obtain ⟨G1, h1, hM, hσ, ad, k, B, off, hv, hroom⟩ := hsrc E G a w hs
  have hyv := hs.ev hy
  rw [hxe] at hyv
  obtain ⟨xa, c, Bx, offx, hxv⟩ := hyv.sv hxz
  rw [← hM] at hv hxv
  obtain ⟨v', G', w', hrun, h2, ad', k', B', off', hv', hroom'⟩ := append_core (P := P) h1 he hv hxv hlen hroom o.type
  obtain ⟨G2, h3⟩ := h2.putOwn (hdlt d hdst) hv' hroom'
  refine ⟨fun _ _ => trivial, ?_⟩
  rw [Oper.semAt_eq _ _ _ (fun c e => by rw [ho] at e; cases e), exec_builtin2 P _ o ho (.inl rfl)]
  simp only [hrun, Result.andThen_ok]
  show next (a.put o.dst v') w'
  rw [hdst]
  exact hnext _ G2 _ w' hK h3 rfl

theorem append_sound {P : Program} {s : St} {o : Oper} {x y : Operand} {t e z d : Nat} (ho : o.op = .call { callee := .builtin .append, args := #[x, y], argTypes := #[t, t] }) (hdst : o.dst = some d) (he : EInf P t e z)
    {rx ry : Opd} (hx : opd x = some rx) (hy : opd y = some ry) {K : St → Prop} (h : appendK z s rx (s.ev ry) fun r s' => K (s'.put o.dst r)) : OpS P o s K := by
  rw [hdst] at h
  unfold appendK at h
  split at h
  · rename_i oy xs hxe
    have hfull : ∀ l, s.ev rx = .sl .full l → (∀ y ∈ l ++ xs, y.cells.length = z) → l.length + xs.length ≤ glim → K (s.put (some d) (.sl (.own z) (l ++ xs))) → OpS P o s K := fun l hl hz hlen hK => by
      refine append_fin ho hdst he hy hxe (fun y hy => hz y (List.mem_append_right _ hy)) hlen hK fun E G a w hs => ⟨G, hs, rfl, rfl, ?_⟩
      have hv := hs.ev hx
      rw [hl] at hv
      obtain ⟨ad, k, B, off, hsv⟩ := hv.sv (fun y hy => hz y (List.mem_append_left _ hy))
      refine ⟨ad, k, B, off, hsv, .inl ?_⟩
      obtain ⟨ad2, k2, _, _, _, h1, _, _, _, h2, _⟩ := hv.inv_sl
      rw [hsv.eq] at h1
      cases h1
      exact h2 rfl
    split at h
    · rename_i t0
      split at h
      · rename_i z' l hg
        obtain ⟨h1, ⟨h2, h3⟩, h4⟩ := req_iff.1 h
        have hzz := Nat.eq_of_beq_eq_true h1
        subst hzz
        refine append_fin ho hdst he hy hxe h2 h3 h4 fun E G a w hs => ?_
        have hat : s.at (.sl t0) = some (.sl (.own z) l) := by
          have := hg
          rw [St.get_at] at this
          cases hq : s.at (.sl t0) with
          | none => rw [hq] at this; cases this
          | some q => rw [hq] at this; simp at this; rw [this]
        have hev : a.eval x = valAt G.σ a w (.sl t0) := by
          cases x with
          | tmp t => cases hx; rfl
          | const v =>
            simp only [opd] at hx
            cases hv : avOf v with
            | none => rw [hv] at hx; cases hx
            | some x => rw [hv] at hx; cases hx
          | func f => cases hx
          | global g => cases hx
        have hv := hs.val _ _ hat
        simp only [AV.deown] at hv
        obtain ⟨ad, k, hval, hz, hcl⟩ := hs.own _ _ _ hat
        have h5 : RS E G (s.put (some t0) (.sl .no l)) a w := hs.upd (q := .sl t0) hat hv
        refine ⟨G, h5, rfl, rfl, ?_⟩
        rw [hev]
        obtain ⟨ad2, k2, B, off, hsv⟩ := hv.sv hz
        have := hsv.eq
        rw [hval] at this
        cases this
        refine ⟨ad, k, B, off, hsv, ?_⟩
        rcases hcl with hcl | ⟨B1, hc1, hc2, hrow⟩
        · exact .inl hcl
        · refine .inr ⟨B1, .sl t0, hc2, ⟨hrow, fun q hq => hs.clinj q _ B1 hq hc1, fun b cs hb => hs.clbox _ B1 hc1 b cs hb, (hs.cllt _ B1 hc1).1, fun z' l' e => ?_⟩⟩
          rw [St.at_put, if_pos rfl] at e; cases e
      · rename_i l hg
        exact hfull l (by simp [St.ev, hg, AV.deown]) h.1.1 h.1.2 h.2
      · exact h.elim
    · rename_i l
      exact hfull l rfl h.1.1 h.1.2 h.2
    · exact h.elim
  · exact h.elim
end Go.AM

namespace Go.AM
open Go.CK Go.RowKit

section
variable {P : Program} {s : St} {o : Oper} {K : St → Prop}

def movK (s : St) (d : Option Nat) (o : Opd) (K : St → Prop) : Prop :=
  match o with
  | .c x => K (s.put d x)
  | .t t => match s.get t with
    | .sl (.own z) l => match d with
      | some d => req (!(Nat.beq d t)) (K (((s.put (some d) (.sl .no l)).put (some t) (.sl .no l)).put (some d) (.sl (.own z) l)))
      | none => False
    | x => K (s.put d x)

theorem get_own {t z : Nat} {l : List AV} (hg : s.get t = .sl (.own z) l) : s.at (.sl t) = some (.sl (.own z) l) := by
  rw [St.get_at] at hg
  cases hq : s.at (.sl t) with
  | none => rw [hq] at hg; cases hg
  | some q => rw [hq] at hg; simp at hg; rw [hg]

theorem mov_sound {x : Operand} (ho : o.op = .move x ∨ o.op = .assign x) {rx : Opd} (hx : opd x = some rx) (h : movK s o.dst rx K) : OpS P o s K := by
  have hd : ∀ c, o.op ≠ .defer c := fun c e => by rcases ho with ho | ho <;> (rw [ho] at e; cases e)
  have hrun : ∀ a w, (execOp (Act.eval a) o).run P w = .ok (.value (a.eval x)) w := fun a w => by
    unfold execOp
    rcases ho with ho | ho <;> simp [ho]
  have fin : ∀ y, s.ev rx = y → K (s.put o.dst y) → OpS P o s K := fun y hy hK => OpS.pure y hd hK fun E G a w hs => ⟨_, hrun a w, by rw [← hy]; exact hs.ev hx⟩
  unfold movK at h
  split at h
  · exact fin _ rfl h
  · rename_i t
    split at h
    · rename_i z l hg
      split at h
      · rename_i d hdst
        obtain ⟨hne, hK⟩ := req_iff.1 h
        have hne : d ≠ t := fun e => by subst e; simp at hne
        intro E G a w rd n next Q hs hdlt hnext
        have hat := get_own hg
        have hev : a.eval x = valAt G.σ a w (.sl t) := by
          cases x with
          | tmp t => cases hx; rfl
          | const v =>
            simp only [opd] at hx
            cases hv : avOf v <;> (rw [hv] at hx; cases hx)
          | func f => cases hx
          | global g => cases hx
        have hv := hs.val _ _ hat
        simp only [AV.deown] at hv
        have hdd := hdlt d hdst
        have hd' : d < a.tmps.size := by rw [hs.nt]; exact hdd
        have h1 := hs.put (k := d) hdd hv
        have hp : (s.put (some d) (.sl .no l)).at (.sl t) = some (.sl (.own z) l) := by rw [St.at_put, if_neg (by simpa using Ne.symm hne)]; exact hat
        have hq : (s.put (some d) (.sl .no l)).at (.sl d) = some (.sl .no l) := by rw [St.at_put, if_pos rfl]
        have h2 := h1.move (p := .sl t) (q := .sl d) (by simpa using Ne.symm hne) hp hq (by rw [valAt_put a w d _ _ hd', valAt_put a w d _ _ hd', if_pos rfl, if_neg (by simpa using Ne.symm hne)])
        refine ⟨fun _ _ => trivial, ?_⟩
        rw [Oper.semAt_eq _ _ _ hd, hrun]
        show next (a.put o.dst (a.eval x)) w
        rw [hdst, hev]
        exact hnext _ _ _ w hK h2 rfl
      · exact h.elim
    · rename_i hnot
      refine fin _ ?_ h
      show (s.get t).deown = _
      generalize s.get t = g at *
      cases g with
      | sl c l => cases c with
        | own z => exact absurd rfl (hnot z l)
        | _ => rfl
      | _ => rfl

def pickK (c x y : AV) (K : AV → Prop) : Prop :=
  match c with
  | .bool b => (b = true → K x) ∧ (b = false → K y)
  | _ => False
theorem pick_sound {c x y : Operand} (ho : o.op = .pick c x y) {rc rx ry : Opd} (hc : opd c = some rc) (hx : opd x = some rx) (hy : opd y = some ry) (h : pickK (s.ev rc) (s.ev rx) (s.ev ry) fun r => K (s.put o.dst r)) : OpS P o s K := by
  have hd : ∀ c, o.op ≠ .defer c := fun c e => by rw [ho] at e; cases e
  unfold pickK at h
  split at h
  · rename_i b hb
    have hbv : ∀ E G a w, RS E G s a w → a.eval c = .bool b := fun E G a w hs => by
      have := hs.ev hc
      rw [hb] at this; exact this.inv_bool
    cases b with
    | true => exact OpS.pure _ hd (h.1 rfl) fun E G a w hs => ⟨a.eval x, by unfold execOp; simp [ho, hbv E G a w hs, asBool], hs.ev hx⟩
    | false => exact OpS.pure _ hd (h.2 rfl) fun E G a w hs => ⟨a.eval y, by unfold execOp; simp [ho, hbv E G a w hs, asBool], hs.ev hy⟩
  · exact h.elim

def nilckK (x : AV) (K : AV → Prop) : Prop :=
  match x with
  | .ptr b off => K (.ptr b off)
  | .ept cs => K (.ept cs)
  | .fn (.func f) xs ys => K (.fn (.func f) xs ys)
  | .elp b i z off => K (.elp b i z off)
  | _ => False
theorem nilck_sound {x : Operand} (ho : o.op = .nilCheck x) {rx : Opd} (hx : opd x = some rx) (h : nilckK (s.ev rx) fun r => K (s.put o.dst r)) : OpS P o s K := by
  have hd : ∀ c, o.op ≠ .defer c := fun c e => by rw [ho] at e; cases e
  unfold nilckK at h
  split at h
  · rename_i b off he
    refine OpS.pure _ hd h fun E G a w hs => ⟨a.eval x, ?_, by rw [← he]; exact hs.ev hx⟩
    have := hs.ev hx
    rw [he] at this
    unfold execOp
    simp [ho, this.inv_ptr.1]
  · rename_i cs he
    refine OpS.pure _ hd h fun E G a w hs => ⟨a.eval x, ?_, by rw [← he]; exact hs.ev hx⟩
    have := hs.ev hx
    rw [he] at this
    obtain ⟨B, off, h1, _⟩ := this.inv_ept
    unfold execOp
    simp [ho, h1]
  · rename_i f xs ys he
    refine OpS.pure _ hd h fun E G a w hs => ⟨a.eval x, ?_, by rw [← he]; exact hs.ev hx⟩
    have := hs.ev hx
    rw [he] at this
    obtain ⟨us, vs, h1, _⟩ := this.inv_fn
    unfold execOp
    simp [ho, h1]
  · rename_i b i z off he
    refine OpS.pure _ hd h fun E G a w hs => ⟨a.eval x, ?_, by rw [← he]; exact hs.ev hx⟩
    have := hs.ev hx
    rw [he] at this
    unfold execOp
    simp [ho, this.inv_elp.1]
  · exact h.elim

def movedTo (off : Nat) : AV → AV
  | .ptr b f => .ptr b (f + off)
  | .ept cs => .ept (cs.drop off)
  | .elp b i z f => .elp b i z (f + off)
  | x => x
def isPtr : AV → Bool
  | .ptr .. | .ept _ | .elp .. => true
  | _ => false
theorem movedTo_rv {M : Hp} {σ : Nat → Nat} {n off : Nat} {x : AV} {v : Value} (hx : RV M σ n x v) (h : isPtr x = true) : ∃ B f, v = .pointer (some ⟨B, f, none⟩) ∧ RV M σ n (movedTo off x) (.pointer (some ⟨B, f + off, none⟩)) := by
  cases x <;> first | (simp [isPtr] at h; done) | skip
  case ptr b f =>
    obtain ⟨rfl, hb⟩ := hx.inv_ptr
    exact ⟨_, _, rfl, .ptr _ _ hb⟩
  case ept cs =>
    obtain ⟨B, f, rfl, hc⟩ := hx.inv_ept
    exact ⟨_, _, rfl, .ept _ _ _ (hc.drop off)⟩
  case elp b i z f =>
    obtain ⟨rfl, hb⟩ := hx.inv_elp
    exact ⟨_, _, rfl, by rw [Nat.add_assoc]; exact .elp _ _ _ _ hb⟩
def fptrK (off : Nat) (x : AV) (K : AV → Prop) : Prop := req (isPtr x) (K (movedTo off x))
theorem fptr_sound {x : Operand} {t f : Nat} (ho : o.op = .fieldAddr t x f) {rx : Opd} (hx : opd x = some rx) {fs : Array Field} {fd : Field} {k : Nat} (ht : P.underlying t = some (.struct fs)) (hf : fs[f]? = some fd) (hk : szOf P fd.type = some k) (hk0 : k ≠ 0)
    (h : fptrK fd.offset (s.ev rx) fun r => K (s.put o.dst r)) : OpS P o s K := by
  have hd : ∀ c, o.op ≠ .defer c := fun c e => by rw [ho] at e; cases e
  obtain ⟨h1, h2⟩ := req_iff.1 h
  refine OpS.pure _ hd h2 fun E G a w hs => ?_
  obtain ⟨B, f', hv, hr⟩ := movedTo_rv (off := fd.offset) (hs.ev hx) h1
  refine ⟨_, ?_, hr⟩
  unfold execOp
  simp [ho, Instr.fieldAt, run_underlying ht, hf, hv, Instr.sureAddr, fieldPlace, run_sizeOf' hk, hk0, addr_add]

/-- the address of an element of a slice -/
def idxK (sz : Nat) (x i : AV) (K : AV → Prop) : Prop :=
  match x, i with
  | .sl _ l, .int _ n => ∃ y, (0 ≤ n ∧ l[n.toNat]? = some y ∧ y.cells.length = sz) ∧ K (.ept y.cells)
  | .bsl b m _, .int _ n => (0 ≤ n ∧ n < m) ∧ K (.elp b n.toNat sz 0)
  | _, _ => False
theorem idx_sound {x i : Operand} {t e : Nat} (ho : o.op = .indexAddr t x i) {rx ri : Opd} (hx : opd x = some rx) (hi : opd i = some ri) {sz : Nat} (ht : P.underlying t = some (.slice e)) (hsz : szOf P e = some sz)
    (h : idxK sz (s.ev rx) (s.ev ri) fun r => K (s.put o.dst r)) : OpS P o s K := by
  have hd : ∀ c, o.op ≠ .defer c := fun c e => by rw [ho] at e; cases e
  unfold idxK at h
  split at h
  · rename_i oc l k n hxe hie
    obtain ⟨y, ⟨h0, hy, hz⟩, hK⟩ := h
    refine OpS.pure _ hd hK fun E G a w hs => ?_
    have hxv := hs.ev hx
    rw [hxe] at hxv
    have hiv := hs.ev hi
    rw [hie] at hiv
    have hiv := hiv.inv_int
    obtain ⟨ad, cap, B, off, sz', h1, _, h3, h4, _, h6, h7⟩ := hxv.inv_sl
    have hlt : n.toNat < l.length := by
      rcases Nat.lt_or_ge n.toNat l.length with h8 | h8
      · exact h8
      · rw [List.getElem?_eq_none h8] at hy; cases hy
    rw [List.getElem?_eq_getElem hlt] at hy
    simp only [Option.some.injEq] at hy
    obtain ⟨a1, a2⟩ := h7 _ hlt
    rw [hy] at a1 a2
    have had := h6 (fun e => by subst e; simp at hlt)
    have hn : 0 ≤ n ∧ n < (l.length : Int) := by omega
    refine ⟨.pointer (some ⟨B, off + n.toNat * sz, none⟩), ?_, ?_⟩
    · unfold execOp
      simp [ho, Instr.indexAt, hiv, asIntOf, run_underlying ht, h1, had, hn, run_sizeOf' hsz, addr_add]
    · rw [← a1, hz] at a2
      exact .ept _ _ _ a2
  · rename_i b m cp k n hxe hie
    obtain ⟨hn, hK⟩ := h
    refine OpS.pure _ hd hK fun E G a w hs => ?_
    have hxv := hs.ev hx
    rw [hxe] at hxv
    have hiv := hs.ev hi
    rw [hie] at hiv
    have hiv := hiv.inv_int
    obtain ⟨ad, h1, hb, _, _, had⟩ := hxv.inv_bsl
    have had := had (by omega)
    refine ⟨.pointer (some ⟨G.σ b, n.toNat * sz + 0, none⟩), ?_, .elp _ _ _ _ hb⟩
    unfold execOp
    simp [ho, Instr.indexAt, hiv, asIntOf, run_underlying ht, h1, had, hn, run_sizeOf' hsz, addr_add]
  · exact h.elim

/-- an element of a string -/
def idxSK (x i : AV) (K : AV → Prop) : Prop :=
  match x, i with
  | .str b, .int _ n => ∃ y, (0 ≤ n ∧ b[n.toNat]? = some y) ∧ K (.int .u8 y.toNat)
  | _, _ => False
theorem idxS_sound {x i : Operand} {t : Nat} (ho : o.op = .index t x i) {rx ri : Opd} (hx : opd x = some rx) (hi : opd i = some ri) (ht : P.underlying t = some .string)
    (h : idxSK (s.ev rx) (s.ev ri) fun r => K (s.put o.dst r)) : OpS P o s K := by
  have hd : ∀ c, o.op ≠ .defer c := fun c e => by rw [ho] at e; cases e
  unfold idxSK at h
  split at h
  · rename_i b k n hxe hie
    obtain ⟨y, ⟨h0, hy⟩, hK⟩ := h
    refine OpS.pure _ hd hK fun E G a w hs => ⟨_, ?_, .flat (.int _ _)⟩
    have hxv := hs.ev hx
    rw [hxe] at hxv
    have hiv := hs.ev hi
    rw [hie] at hiv
    unfold execOp
    simp [ho, Instr.index, hiv.inv_int, asIntOf, run_underlying ht, hxv.inv_str.1, h0, hy]
  · exact h.elim

/-- a struct value's field -/
def fldK (agg : Bool) (off n : Nat) (x : AV) (K : AV → Prop) : Prop :=
  match x with
  | .agg cs => match agg with
    | true => req (Nat.ble (off + n) cs.length) (K (.agg ((cs.drop off).take n)))
    | false => match cs.drop off with
      | c :: _ => K c
      | [] => False
  | _ => False
theorem fld_sound {x : Operand} {t f : Nat} (ho : o.op = .field t x f) {rx : Opd} (hx : opd x = some rx) {fs : Array Field} {fd : Field} (ht : P.underlying t = some (.struct fs)) (hf : fs[f]? = some fd) {agg : Bool} {n : Nat} (ha : aggOf P fd.type = some agg) (hn : agg = true → szOf P fd.type = some n)
    (h : fldK agg fd.offset n (s.ev rx) fun r => K (s.put o.dst r)) : OpS P o s K := by
  have hd : ∀ c, o.op ≠ .defer c := fun c e => by rw [ho] at e; cases e
  unfold fldK at h
  split at h
  · rename_i cs hxe
    split at h
    · obtain ⟨h1, h2⟩ := req_iff.1 h
      have hle := Nat.le_of_ble_eq_true h1
      refine OpS.pure _ hd h2 fun E G a w hs => ?_
      have hxv := hs.ev hx
      rw [hxe] at hxv
      obtain ⟨vs, hv, hl, hone, hr⟩ := hxv.inv_agg
      refine ⟨.agg ((vs.drop fd.offset).take n).toArray, ?_, .agg _ _ ?_ (fun v hv => hone v (List.mem_of_mem_drop (List.mem_of_mem_take hv))) (fun j hj v hjv => ?_)⟩
      · unfold execOp
        simp [ho, Instr.field, run_underlying ht, hf, hv, asAgg, part, aggOf_run ha, run_sizeOf' (hn rfl), List.extract_eq_take_drop]
      · simp [hl]
      · simp only [List.length_take, List.length_drop] at hj
        rw [List.getElem_take, List.getElem_drop]
        rw [List.getElem?_take, if_pos (by omega), List.getElem?_drop] at hjv
        exact hr _ (by omega) v hjv
    · split at h
      · rename_i c rest hc
        refine OpS.pure _ hd h fun E G a w hs => ?_
        have hxv := hs.ev hx
        rw [hxe] at hxv
        obtain ⟨vs, hv, hl, hone, hr⟩ := hxv.inv_agg
        have hlt : fd.offset < cs.length := by
          rcases Nat.lt_or_ge fd.offset cs.length with h1 | h1
          · exact h1
          · rw [List.drop_eq_nil_of_le h1] at hc; cases hc
        have hcc : cs[fd.offset] = c := by
          rw [List.drop_eq_getElem_cons hlt] at hc
          cases hc; rfl
        have hv2 : vs[fd.offset]? = some (vs[fd.offset]'(by omega)) := List.getElem?_eq_getElem _
        refine ⟨_, ?_, by rw [← hcc]; exact hr _ hlt _ hv2⟩
        unfold execOp
        simp [ho, Instr.field, run_underlying ht, hf, hv, asAgg, part, aggOf_run ha, hv2]
      · exact h.elim
  · exact h.elim

/-- a component of several results -/
def extK (i : Nat) (x : AV) (K : AV → Prop) : Prop :=
  match x with
  | .tup vs => match vs[i]? with
    | some y => K y
    | none => False
  | _ => False
theorem ext_sound {x : Operand} {i : Nat} (ho : o.op = .extract x i) {rx : Opd} (hx : opd x = some rx) (h : extK i (s.ev rx) fun r => K (s.put o.dst r)) : OpS P o s K := by
  have hd : ∀ c, o.op ≠ .defer c := fun c e => by rw [ho] at e; cases e
  unfold extK at h
  split at h
  · rename_i xs hxe
    split at h
    · rename_i y hy
      refine OpS.pure _ hd h fun E G a w hs => ?_
      have hxv := hs.ev hx
      rw [hxe] at hxv
      obtain ⟨vs, hv, hl, hr⟩ := hxv.inv_tup
      have hlt : i < xs.length := by
        rcases Nat.lt_or_ge i xs.length with h1 | h1
        · exact h1
        · rw [List.getElem?_eq_none h1] at hy; cases hy
      rw [List.getElem?_eq_getElem hlt] at hy
      cases hy
      have hv2 : vs[i]? = some (vs[i]'(by omega)) := List.getElem?_eq_getElem _
      refine ⟨_, ?_, hr i hlt _ hv2⟩
      unfold execOp
      simp [ho, Instr.extract, hv, hv2]
    · exact h.elim
  · exact h.elim

def lenK (str : Bool) (x : AV) (K : AV → Prop) : Prop :=
  match str, x with
  | false, .sl _ l => K (.int .i64 l.length)
  | true, .str b => K (.int .i64 b.size)
  | false, .bsl _ m _ => K (.int .i64 m)
  | _, _ => False
theorem exec_builtin1 (P : Program) (ρ : Operand → Value) (o : Oper) {x : Operand} {ts : Array TypeId} (ho : o.op = .call { callee := .builtin .len, args := #[x], argTypes := ts }) (w : World) :
    (execOp ρ o).run P w = ((Builtin.len_ ts o.type #[ρ x]).run P w).andThen fun v w' => .ok (.value v) w' := by
  unfold execOp
  simp [ho, resolve, invoke, builtin]
theorem len_sound {x : Operand} {t : Nat} (ho : o.op = .call { callee := .builtin .len, args := #[x], argTypes := #[t] }) {rx : Opd} (hx : opd x = some rx) {str : Bool} (ht : (str = true ∧ P.underlying t = some .string) ∨ (str = false ∧ ∃ e, P.underlying t = some (.slice e)))
    (h : lenK str (s.ev rx) fun r => K (s.put o.dst r)) : OpS P o s K := by
  have hd : ∀ c, o.op ≠ .defer c := fun c e => by rw [ho] at e; cases e
  unfold lenK at h
  split at h
  · rename_i oc l hxe
    obtain ⟨e, he⟩ : ∃ e, P.underlying t = some (.slice e) := by rcases ht with ⟨h1, _⟩ | ⟨_, h1⟩; cases h1; exact h1
    refine OpS.pure _ hd h fun E G a w hs => ⟨_, ?_, .flat (.int _ _)⟩
    have hxv := hs.ev hx
    rw [hxe] at hxv
    obtain ⟨ad, cap, B, off, sz', h1, _⟩ := hxv.inv_sl
    rw [exec_builtin1 P _ o ho]
    simp [Builtin.len_, run_underlying he, h1, goInt]
  · rename_i b hxe
    have h0 : P.underlying t = some .string := by rcases ht with ⟨_, h1⟩ | ⟨h1, _⟩; exact h1; cases h1
    refine OpS.pure _ hd h fun E G a w hs => ⟨_, ?_, .flat (.int _ _)⟩
    have hxv := hs.ev hx
    rw [hxe] at hxv
    rw [exec_builtin1 P _ o ho]
    simp [Builtin.len_, run_underlying h0, hxv.inv_str.1, goInt]
  · rename_i b m cp hxe
    obtain ⟨e, he⟩ : ∃ e, P.underlying t = some (.slice e) := by rcases ht with ⟨h1, _⟩ | ⟨_, h1⟩; cases h1; exact h1
    refine OpS.pure _ hd h fun E G a w hs => ⟨_, ?_, .flat (.int _ _)⟩
    have hxv := hs.ev hx
    rw [hxe] at hxv
    obtain ⟨ad, h1, _⟩ := hxv.inv_bsl
    rw [exec_builtin1 P _ o ho]
    simp [Builtin.len_, run_underlying he, h1, goInt]
  · exact h.elim

def unK (op : UnOp) (x : AV) (K : AV → Prop) : Prop :=
  match op, x with
  | .neg, .int k n => K (.int k (k.wrap (0 - n)))
  | .not, .bool b => K (.bool (!b))
  | _, _ => False
theorem un_sound {x : Operand} {op : UnOp} {t : Nat} (ho : o.op = .unOp op t x) {rx : Opd} (hx : opd x = some rx) (h : unK op (s.ev rx) fun r => K (s.put o.dst r)) : OpS P o s K := by
  have hd : ∀ c, o.op ≠ .defer c := fun c e => by rw [ho] at e; cases e
  unfold unK at h
  split at h
  · rename_i k n hxe
    refine OpS.pure _ hd h fun E G a w hs => ⟨_, ?_, .flat (.int _ _)⟩
    have hxv := hs.ev hx
    rw [hxe] at hxv
    unfold execOp
    simp [ho, Op.unary, Op.intArith, hxv.inv_int]
  · rename_i b hxe
    refine OpS.pure _ hd h fun E G a w hs => ⟨_, ?_, .flat (.bool _)⟩
    have hxv := hs.ev hx
    rw [hxe] at hxv
    unfold execOp
    simp [ho, Op.unary, hxv.inv_bool]
  · exact h.elim

/-- a conversion between integers, or of a string to a string -/
def convK (k : Option IntKind) (x : AV) (K : AV → Prop) : Prop :=
  match k, x with
  | some k, .int _ n => K (.int k (k.wrap n))
  | none, .str b => K (.str b)
  | _, _ => False
theorem conv_sound {x : Operand} {t u : Nat} (ho : o.op = .convert t u x) {rx : Opd} (hx : opd x = some rx) {k : Option IntKind} {dt : TypeDesc} (ht : P.underlying t = some dt) (hu : P.underlying u = some (match k with | some k => .int k | none => .string))
    (h : convK k (s.ev rx) fun r => K (s.put o.dst r)) : OpS P o s K := by
  have hd : ∀ c, o.op ≠ .defer c := fun c e => by rw [ho] at e; cases e
  unfold convK at h
  split at h
  · rename_i k k' n hxe
    refine OpS.pure _ hd h fun E G a w hs => ⟨_, ?_, .flat (.int _ _)⟩
    have hxv := hs.ev hx
    rw [hxe] at hxv
    unfold execOp
    simp [ho, convert, run_underlying ht, run_underlying hu, hxv.inv_int, Conv.intToInt]
  · rename_i b hxe
    refine OpS.pure _ hd h fun E G a w hs => ⟨_, ?_, by have := hs.ev hx; rw [hxe] at this; exact this⟩
    have hxv := hs.ev hx
    rw [hxe] at hxv
    unfold execOp
    simp [ho, convert, run_underlying ht, run_underlying hu, hxv.inv_str.1]
  · exact h.elim
end
end Go.AM

