/-
  PLAIN GROUND, MORE: a row that a call builds itself, beside boxes of the call's own. No function of the program is named here. By an AI agent.
-/
import Derived.Test.YtllcnpfdklbbbaaTerm
namespace Go.CK
open Go.RowKit

/-- H, and what lies from block 'base' on in w, but for the row of v -/
def Hp.rowF (H : Hp) (base : Nat) (w : World) (v : Value) : Hp := fun b o => if v.ownBlock = some b then none else if base ≤ b then w.cell? ⟨b, o, none⟩ else H b o
def Hp.frm (H : Hp) (base : Nat) (w : World) : Hp := fun b o => if base ≤ b then w.cell? ⟨b, o, none⟩ else H b o

theorem Hp.rowF_le_frm {H : Hp} {base : Nat} {w : World} {v : Value} : (H.rowF base w v).le (H.frm base w) := fun b o u x => by
  simp only [Hp.rowF] at x
  split at x
  · cases x
  · exact x

theorem Hp.frm_le {H : Hp} {w0 w : World} {base : Nat} (hH : H.le (Hp.of w0)) (h : Ext w0 w) : (H.frm base w).le (Hp.of w) := fun b o u x => by
  simp only [Hp.frm] at x
  split at x
  · exact x
  · exact (Hp.ext hH h) _ _ _ x

theorem Hp.frm_le_plus {H : Hp} {w0 w : World} {base : Nat} (hH : H.le (Hp.of w0)) (hb : w0.heap.size ≤ base) : (H.frm base w).le (H.plus w0 w) := fun b o u x => by
  simp only [Hp.frm] at x
  simp only [Hp.plus]
  split at x
  · rw [if_pos (by omega)]; exact x
  · have := Hp.lt hH x
    rw [if_neg (by omega)]; exact x

/-- below base the call's own boxes are not known -/
theorem Hp.frm_none {H : Hp} {w0 w : World} {base g : Nat} (hH : H.le (Hp.of w0)) (h0 : w0.heap.size ≤ g) (hg : g < base) (o : Nat) : H.frm base w g o = none := by
  simp only [Hp.frm]
  rw [if_neg (by omega)]
  cases hq : H g o with
  | none => rfl
  | some v => exact absurd (Hp.lt hH hq) (by omega)

structure Ow {α : Type} (H : Hp) (w0 : World) (base : Nat) (w : World) (e : TypeId) (sz : Nat) (R : Hp → List Value → α → Prop) (v : Value) (l : List α) : Prop where
  ext : Ext w0 w
  lo : w0.heap.size ≤ base
  hi : base ≤ w.heap.size
  hp : H.le (Hp.of w0)
  row : ∃ xs, w.ownsRow base e sz v l.length xs ∧ ∀ i (h : i < l.length), R (H.rowF base w v) ((xs.drop (i * sz)).take sz) l[i]

section
variable {α : Type} {H : Hp} {w0 w : World} {base : Nat} {e : TypeId} {sz : Nat} {R : Hp → List Value → α → Prop} {v : Value} {l : List α}

theorem Ow.nil (hp : H.le (Hp.of w0)) (h : Ext w0 w) (lo : w0.heap.size ≤ base) (hi : base ≤ w.heap.size) : Ow H w0 base w e sz R (.slice none 0 0) ([] : List α) :=
  ⟨h, lo, hi, hp, [], World.ownsRow_nil _ _ _ _, fun i hi => by cases hi⟩

theorem Ow.shape (h : Ow H w0 base w e sz R v l) : ∃ a cap, v = .slice a l.length cap := by
  obtain ⟨xs, hx, _⟩ := h.row
  rcases hx.2 with ⟨rfl, h0⟩ | ⟨g, cap, cur, rfl, _⟩
  · exact ⟨none, 0, by rw [h0]⟩
  · exact ⟨_, cap, rfl⟩

theorem Ow.block (h : Ow H w0 base w e sz R v l) : ∀ k, v.ownBlock = some k → base ≤ k ∧ k < w.heap.size := by
  obtain ⟨xs, hx, _⟩ := h.row
  exact hx.lt

theorem Ow.le_row (h : Ow H w0 base w e sz R v l) : H.le (H.rowF base w v) := fun b o u x => by
  have h1 := Hp.lt h.hp x
  have h2 := h.lo
  simp only [Hp.rowF]
  rw [if_neg (fun e => by have := (h.block _ e).1; omega), if_neg (by omega)]
  exact x

theorem Ow.row_le (h : Ow H w0 base w e sz R v l) : (H.rowF base w v).le (Hp.of w) := Hp.le_trans Hp.rowF_le_frm (Hp.frm_le h.hp h.ext)

theorem Ow.move {w' : World} (hu : Up R) (h : Ow H w0 base w e sz R v l) (h' : Ext w w') : Ow H w0 base w' e sz R v l := by
  obtain ⟨xs, hx, hr⟩ := h.row
  refine ⟨h.ext.trans h', h.lo, Nat.le_trans h.hi h'.size, h.hp, xs, ?_, fun i hi => hu _ _ _ _ (fun b o u x => ?_) (hr i hi)⟩
  · exact hx.kept (row := none) ⟨h'.bel.os, h'.bel.tape, h'.bel.output, h'.size, fun k hk _ => h'.bel.block k hk⟩ (by cases hv : v.ownBlock <;> simp)
  · simp only [Hp.rowF] at x ⊢
    split at x
    · cases x
    · rename_i h1; rw [if_neg h1]
      split at x
      · rename_i h2; rw [if_pos h2]; exact h'.cell x
      · rename_i h2; rw [if_neg h2]; exact x

/-- a store into a box of the call's own -/
theorem Ow.setBox (hu : Up R) (h : Ow H w0 base w e sz R v l) {p : Addr} (hp0 : w0.heap.size ≤ p.block) (hp1 : p.block < base) (u : Value) : Ow H w0 base (w.setCell p u) e sz R v l := by
  obtain ⟨xs, hx, hr⟩ := h.row
  refine ⟨h.ext.setCell hp0 u, h.lo, by simpa [World.setCell] using h.hi, h.hp, xs, ?_, fun i hi => hu _ _ _ _ (fun b o x y => ?_) (hr i hi)⟩
  · exact ownsRow_setCell_below hx hp1 u
  · simp only [Hp.rowF] at y ⊢
    split at y
    · cases y
    · rename_i h1; rw [if_neg h1]
      split at y
      · rename_i h2; rw [if_pos h2]
        rw [World.cell?_of_block (w := w) (Below.heap_setCell _ _ _ _ (by simp only; omega))]; exact y
      · rename_i h2; rw [if_neg h2]; exact y

theorem Ow.read (hu : Up R) (h : Ow H w0 base w e sz R v l) (hl : l.length ≤ lim) : ∃ a cap, v = .slice a l.length cap ∧ l.length ≤ cap ∧ Sl (H.frm base w) sz (R (H.frm base w)) a l := by
  obtain ⟨xs, hx, hr⟩ := h.row
  rcases hx.2 with ⟨rfl, h0⟩ | ⟨g, cap, cur, rfl, hb, hg, hn, hc, hs, ht⟩
  · exact ⟨none, 0, by rw [h0], by omega, hl, fun i hi => by omega⟩
  · refine ⟨_, cap, rfl, hn, hl, fun i hi => ⟨g, 0, _, rfl, ?_, ?_, hu _ _ _ _ Hp.rowF_le_frm (hr i hi)⟩⟩
    · simp only [List.length_take, List.length_drop, hx.1]
      have h1 : (i + 1) * sz ≤ l.length * sz := Nat.mul_le_mul_right _ hi
      have h2 : (i + 1) * sz = i * sz + sz := by rw [Nat.add_mul, Nat.one_mul]
      omega
    · intro j x hj
      have hj' : xs[i * sz + j]? = some x := by
        rw [List.getElem?_take] at hj
        split at hj
        · rw [List.getElem?_drop] at hj; exact hj
        · cases hj
      have := hx.cells (g := g) rfl _ _ hj'
      simp only [Hp.frm]
      rw [if_pos (by omega)]
      have ha : (⟨g, 0, none⟩ : Addr).add (i * sz + j) = ⟨g, 0 + i * sz + j, none⟩ := by unfold Addr.add; split <;> simp_all
      rw [← ha]; exact this

/-- a callee's result, beside a row of the caller's own -/
theorem Ow.up (h : Ow H w0 base w e sz R v l) {w1 w2 : World} (h1 : Ext w w1) (h2 : Ext w1 w2) : ((H.rowF base w v).plus w1 w2).le (H.rowF base w2 v) := fun b o u x => by
  have := h1.size; have := h.hi
  simp only [Hp.plus] at x
  split at x
  · simp only [Hp.rowF]
    rw [if_neg (fun e => by have := (h.block _ e).2; omega), if_pos (by omega)]; exact x
  · simp only [Hp.rowF] at x ⊢
    split at x
    · cases x
    · rename_i hb; rw [if_neg hb]
      split at x
      · rename_i hc; rw [if_pos hc]; exact (h1.trans h2).cell x
      · rename_i hc; rw [if_neg hc]; exact x
end

/-- 'out = append(out, ys...)' -/
theorem Ow.append {α : Type} {H : Hp} {w0 w : World} {base : Nat} {e : TypeId} {sz : Nat} {R : Hp → List Value → α → Prop} {v : Value} {l : List α} {P : Program} (hu : Up R)
    (t ty : TypeId) (i : TypeInfo) (z : Value) (bytes : Nat) (ht : P.underlying t = some (.slice e)) (hi : P.info? e = some i) (hz : i.zero = some z)
    (hsize : i.size = sz) (hby : i.bytes = bytes) (hzs : z.cells.size = sz) (h : Ow H w0 base w e sz R v l)
    (ys : List α) (a : Addr) (c : Nat) (news : List Value) (hl : news.length = ys.length * sz) (hnews : ∀ j u, news[j]? = some u → w.cell? (a.add j) = some u) (h1 : ∀ u ∈ news, u.oneCell' = true)
    (hr : ∀ i (hi : i < ys.length), R (H.rowF base w v) ((news.drop (i * sz)).take sz) ys[i]) (hlen : l.length + ys.length ≤ glim) (hb : bytes ≤ 4096) :
    ∃ v' w', (Builtin.append_ #[t, t] ty #[v, .slice (some a) ys.length c]).run P w = .ok v' w' ∧ Ow H w0 base w' e sz R v' (l ++ ys) ∧ w.grownBy w' v.ownBlock := by
  obtain ⟨xs, hx, hxr⟩ := h.row
  have hbytes : (l.length + ys.length) * bytes ≤ 140737488355328 := by
    have := Nat.mul_le_mul hlen hb
    unfold glim at this; omega
  obtain ⟨v', w', hrun, hown, hg, hv⟩ := run_append_own2 (P := P) w base t ty e i z sz bytes ht hi hz hsize hby hzs v l.length xs hx a ys.length c news hl hnews h1 (by unfold glim at hlen; unfold maxLen; omega) hbytes h.hi
  have hblk := h.block
  have hlo := h.lo
  have hle : (H.rowF base w v).le (H.rowF base w' v') := by
    intro b o u hbo
    have hlt : b < w.heap.size := Hp.lt h.row_le hbo
    simp only [Hp.rowF] at hbo ⊢
    split at hbo
    · cases hbo
    · rename_i hne
      have hb' : v'.ownBlock ≠ some b := by
        intro he
        rcases hv with hv | hv
        · rw [hv] at he; exact hne he
        · have h2 := hv _ he; omega
      rw [if_neg hb']
      split at hbo
      · rename_i hge
        rw [if_pos hge]
        exact hg.cell hbo (fun e => hne e.symm)
      · rename_i hge; rw [if_neg hge]; exact hbo
  refine ⟨v', w', hrun, ⟨h.ext.grown hg (fun k hk => Nat.le_trans hlo (hblk k hk).1), hlo, Nat.le_trans h.hi hg.size, h.hp, xs ++ news, by rw [List.length_append]; exact hown, ?_⟩, hg⟩
  intro j hj
  rw [List.length_append] at hj
  by_cases hjl : j < l.length
  · rw [chunk_append hx.1 j hjl, List.getElem_append_left hjl]
    exact hu _ _ _ _ hle (hxr j hjl)
  · obtain ⟨k, rfl⟩ : ∃ k, j = l.length + k := ⟨j - l.length, by omega⟩
    rw [chunk_append_right hx.1 k, List.getElem_append_right (by omega)]
    simp only [Nat.add_sub_cancel_left]
    exact hu _ _ _ _ hle (hr k (by omega))

/-- the type's row of the table -/
structure Inf (P : Program) (t e : TypeId) (sz : Nat) : Prop where
  sl : P.underlying t = some (.slice e)
  ex : ∃ i z, P.info? e = some i ∧ i.zero = some z ∧ i.size = sz ∧ z.cells.size = sz ∧ i.bytes ≤ 4096

theorem Inf.mk' {P : Program} {t e : TypeId} {sz bytes : Nat} {z : Value} (h : P.underlying t = some (.slice e)) (hi : (P.info? e).map (fun i => (i.zero, i.size, i.bytes)) = some (some z, sz, bytes)) (hz : z.cells.size = sz) (hb : bytes ≤ 4096) : Inf P t e sz := by
  obtain ⟨i, h1, h2, h3, h4⟩ := info_parts hi
  exact ⟨h, i, z, h1, h2, h3, hz, by omega⟩

theorem wp_append {α : Type} {H : Hp} {w0 w : World} {base : Nat} {e : TypeId} {sz : Nat} {R : Hp → List Value → α → Prop} {v : Value} {l : List α} {P : Program} {o : Oper} {a : Act} {K : Act → World → Prop} {Q : Exit → Act → World → Prop} {t : TypeId}
    (hin : Inf P t e sz) (s x : Operand) (ho : o.op = .call { callee := .builtin .append, args := #[s, x], argTypes := #[t, t] }) (hu : Up R) (hs : a.eval s = v) (h : Ow H w0 base w e sz R v l)
    (ys : List α) (ad : Addr) (m c : Nat) (news : List Value) (hx : a.eval x = .slice (some ad) m c) (hm : m = ys.length) (hl : news.length = ys.length * sz) (hnews : ∀ j u, news[j]? = some u → w.cell? (ad.add j) = some u) (h1 : ∀ u ∈ news, u.oneCell' = true)
    (hr : ∀ i (hi : i < ys.length), R (H.rowF base w v) ((news.drop (i * sz)).take sz) ys[i]) (hlen : l.length + ys.length ≤ glim)
    (hk : ∀ v' w', Ow H w0 base w' e sz R v' (l ++ ys) → w.grownBy w' v.ownBlock → K (a.put o.dst v') w') : o.wp P a w K Q := by
  subst hm
  obtain ⟨i, z, hi, hz, hsz, hzs, hb⟩ := hin.ex
  obtain ⟨v', w', hrun, h2, h3⟩ := h.append hu t o.type i z i.bytes hin.sl hi hz hsz rfl hzs ys ad c news hl hnews h1 hr hlen hb
  unfold Oper.wp execOp
  simp only [ho, resolve, invoke, builtin, Sem.run_bind, Sem.run_pure, Result.andThen_ok, List.map_toArray, List.map_cons, List.map_nil, hs, hx, hrun]
  exact hk v' w' h2 h3

/-- the same, one element that lies in a block of its own at the heap's end -/
theorem wp_append1 {α : Type} {H : Hp} {w0 w : World} {base : Nat} {e : TypeId} {sz : Nat} {R : Hp → List Value → α → Prop} {v : Value} {l : List α} {P : Program} {o : Oper} {a : Act} {K : Act → World → Prop} {Q : Exit → Act → World → Prop} {t : TypeId}
    (hin : Inf P t e sz) (s x : Operand) (ho : o.op = .call { callee := .builtin .append, args := #[s, x], argTypes := #[t, t] }) (hu : Up R) (hs : a.eval s = v) (h : Ow H w0 base w e sz R v l)
    (y : α) (g c : Nat) (news : List Value) (hx : a.eval x = .slice (some ⟨g, 0, none⟩) 1 c) (hl : news.length = sz) (hnews : ∀ j u, news[j]? = some u → w.cell? ⟨g, j, none⟩ = some u) (h1 : ∀ u ∈ news, u.oneCell' = true)
    (hr : R (H.rowF base w v) news y) (hlen : l.length + 1 ≤ glim)
    (hk : ∀ v' w', Ow H w0 base w' e sz R v' (l ++ [y]) → w.grownBy w' v.ownBlock → K (a.put o.dst v') w') : o.wp P a w K Q := by
  refine wp_append hin s x ho hu hs h [y] ⟨g, 0, none⟩ 1 c news hx rfl (by simpa using hl) (fun j u hj => ?_) h1 (fun i hi => ?_) hlen hk
  · have ha : (⟨g, 0, none⟩ : Addr).add j = ⟨g, j, none⟩ := by unfold Addr.add; split <;> simp_all
    rw [ha]; exact hnews j u hj
  · obtain rfl : i = 0 := by simpa using hi
    simp only [Nat.zero_mul, List.drop_zero, List.getElem_cons_zero]
    rw [List.take_of_length_le (by omega)]; exact hr

theorem step_append1 {α : Type} {H : Hp} {w0 w : World} {base : Nat} {e : TypeId} {sz : Nat} {R : Hp → List Value → α → Prop} {v : Value} {l : List α} {P : Program} {o : Oper} {a : Act} {K : Act → World → Prop} {Q : Exit → Act → World → Prop} {t : TypeId} {ops : Array Oper} {E : Prop}
    (hgd : o.guard = none) (hin : Inf P t e sz) (s x : Operand) (ho : o.op = .call { callee := .builtin .append, args := #[s, x], argTypes := #[t, t] }) (hu : Up R) (hs : a.eval s = v) (h : Ow H w0 base w e sz R v l)
    (y : α) (g c : Nat) (news : List Value) (hx : a.eval x = .slice (some ⟨g, 0, none⟩) 1 c) (hl : news.length = sz) (hnews : ∀ j u, news[j]? = some u → w.cell? ⟨g, j, none⟩ = some u) (h1 : ∀ u ∈ news, u.oneCell' = true)
    (hr : R (H.rowF base w v) news y) (hlen : l.length + 1 ≤ glim)
    (hk : ∀ v' w', Ow H w0 base w' e sz R v' (l ++ [y]) → w.grownBy w' v.ownBlock → K (a.put o.dst v') w') : if Region.wanted o (yielded ops a.tmps) = true then Oper.wp P o a w K Q else E := by
  have hw : Region.wanted o (yielded ops a.tmps) = true := by simp [Region.wanted, hgd]
  rw [if_pos hw]
  exact wp_append1 hin s x ho hu hs h y g c news hx hl hnews h1 hr hlen hk

theorem wpList_append1 {α : Type} {H : Hp} {w0 w : World} {base : Nat} {e : TypeId} {sz : Nat} {R : Hp → List Value → α → Prop} {v : Value} {l : List α} {P : Program} {o : Oper} {a : Act} {Q : Exit → Act → World → Prop} {t : TypeId} {ops : Array Oper} {rest : List Oper}
    (hgd : o.guard = none) (hin : Inf P t e sz) (s x : Operand) (ho : o.op = .call { callee := .builtin .append, args := #[s, x], argTypes := #[t, t] }) (hu : Up R) (hs : a.eval s = v) (h : Ow H w0 base w e sz R v l)
    (y : α) (g c : Nat) (news : List Value) (hx : a.eval x = .slice (some ⟨g, 0, none⟩) 1 c) (hl : news.length = sz) (hnews : ∀ j u, news[j]? = some u → w.cell? ⟨g, j, none⟩ = some u) (h1 : ∀ u ∈ news, u.oneCell' = true)
    (hr : R (H.rowF base w v) news y) (hlen : l.length + 1 ≤ glim)
    (hk : ∀ v' w', Ow H w0 base w' e sz R v' (l ++ [y]) → w.grownBy w' v.ownBlock → wpList P ops Q rest (a.put o.dst v') w') : wpList P ops Q (o :: rest) a w :=
  wpList_plain hgd fun _ hK => wp_append1 hin s x ho hu hs h y g c news hx hl hnews h1 hr hlen fun v' w' h2 h3 => hK _ _ (hk v' w' h2 h3)
end Go.CK
